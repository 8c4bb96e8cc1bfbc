/- Lemmas towards the law. -/
open Option.some renaming inj->cN
set_option linter.all false
namespace Go.Proofs.YtckhbnmfnpolgaaGreat.M
inductive Tm where
 |var (n:Nat)
 |sort (n:Nat)
 |pi (A B:Tm)
 |lam (A t:Tm)
 |app (f a:Tm)
 |nat
 |zero
 |succ (a:Tm)
 |elim (p z s a:Tm)
 |id (T a b:Tm)
 |refl (a:Tm)
 |move (p e a:Tm)
 |sg (A B:Tm)
 |pair (T a b:Tm)
 |fst (a:Tm)
 |snd (a:Tm)
 deriving DecidableEq
namespace Tm
def upr(r:Nat->Nat):Nat->Nat
 |0=> 0
 |n+1=> r n+1
def ren(r:Nat->Nat):Tm->Tm
 |var n=> var (r n)
 |sort n=> sort n
 |pi A B=> pi (A.ren r) (B.ren (upr r))
 |lam A t=> lam (A.ren r) (t.ren (upr r))
 |app f a=> app (f.ren r) (a.ren r)
 |nat=> nat
 |zero=> zero
 |succ a=> succ (a.ren r)
 |elim p z s a=> elim (p.ren r) (z.ren r) (s.ren r) (a.ren r)
 |id T a b=> id (T.ren r) (a.ren r) (b.ren r)
 |refl a=> refl (a.ren r)
 |move p e a=> move (p.ren r) (e.ren r) (a.ren r)
 |sg A B=> sg (A.ren r) (B.ren (upr r))
 |pair T a b=> pair (T.ren r) (a.ren r) (b.ren r)
 |fst a=> fst (a.ren r)
 |snd a=> snd (a.ren r)
abbrev wk(t:Tm):Tm:=t.ren Nat.succ
def ups(s:Nat->Tm):Nat->Tm
 |0=> var 0
 |n+1=> wk (s n)
def sub(s:Nat->Tm):Tm->Tm
 |var n=> s n
 |sort n=> sort n
 |pi A B=> pi (A.sub s) (B.sub (ups s))
 |lam A t=> lam (A.sub s) (t.sub (ups s))
 |app f a=> app (f.sub s) (a.sub s)
 |nat=> nat
 |zero=> zero
 |succ a=> succ (a.sub s)
 |elim p z c a=> elim (p.sub s) (z.sub s) (c.sub s) (a.sub s)
 |id T a b=> id (T.sub s) (a.sub s) (b.sub s)
 |refl a=> refl (a.sub s)
 |move p e a=> move (p.sub s) (e.sub s) (a.sub s)
 |sg A B=> sg (A.sub s) (B.sub (ups s))
 |pair T a b=> pair (T.sub s) (a.sub s) (b.sub s)
 |fst a=> fst (a.sub s)
 |snd a=> snd (a.sub s)
def cns(u:Tm)(s:Nat->Tm):Nat->Tm
 |0=> u
 |n+1=> s n
def inst(t u:Tm):Tm:=t.sub (cns u var)
theorem Yu:upr (fun n=> n)=fun n=> n:=by
 funext n;cases n <;> rfl
theorem QJ(r q:Nat->Nat):upr (fun n=> r (q n))=fun n=> upr r (upr q n):=by
 funext n;cases n <;> rfl
theorem Ns:ups var=var:=by
 funext n;cases n <;> rfl
theorem ren_ren(t:Tm): ∀(r q:Nat->Nat),(t.ren q).ren r=t.ren (fun n=> r (q n)):=by
 induction t <;> intro r q <;> simp only[ren, *] <;> simp only[QJ]
theorem Wp(s:Nat->Tm)(q:Nat->Nat):(fun n=> ups s (upr q n))=ups (fun n=> s (q n)):=by
 funext n;cases n <;> rfl
theorem Wz(t:Tm): ∀(s:Nat->Tm) (q:Nat->Nat),(t.ren q).sub s=t.sub (fun n=> s (q n)):=by
 induction t <;> intro s q <;> simp only[ren,sub, *] <;> simp only[Wp]
theorem vp(s:Nat->Tm)(r:Nat->Nat):(fun n=>(ups s n).ren (upr r))=ups (fun n=>(s n).ren r):=by
 funext n
 cases n with
 |zero=> rfl
 |succ n=>
  show((s n).ren Nat.succ).ren (upr r)=((s n).ren r).ren Nat.succ
  rw[ren_ren,ren_ren]
  rfl
theorem Cx(t:Tm): ∀(s:Nat->Tm) (r:Nat->Nat),(t.sub s).ren r=t.sub (fun n=>(s n).ren r):=by
 induction t <;> intro s r <;> simp only[ren,sub, *] <;> simp only[vp]
theorem an(s q:Nat->Tm):(fun n=>(ups q n).sub (ups s))=ups (fun n=>(q n).sub s):=by
 funext n
 cases n with
 |zero=> rfl
 |succ n=>
  show((q n).ren Nat.succ).sub (ups s)=((q n).sub s).ren Nat.succ
  rw[Wz,Cx]
  rfl
theorem ws(t:Tm): ∀(s q:Nat->Tm),(t.sub q).sub s=t.sub (fun n=>(q n).sub s):=by
 induction t <;> intro s q <;> simp only[sub, *] <;> simp only[an]
theorem Xc(t:Tm):t.sub var=t:=by
 induction t <;> simp only[sub,Ns, *]
theorem ren_id(t:Tm):t.ren (fun n=> n)=t:=by
 induction t <;> simp only[ren,Yu, *]
theorem ID(r:Nat->Nat):ups (fun n=> var (r n))=fun n=> var (upr r n):=by
 funext n;cases n <;> rfl
theorem dm(t:Tm): ∀r:Nat->Nat,t.ren r=t.sub (fun n=> var (r n)):=by
 induction t <;> intro r <;> simp only[ren,sub, *] <;> simp only[ID]
theorem Yo(t u:Tm)(s:Nat->Tm):(wk t).sub (cns u s)=t.sub s:=by
 rw[Wz];rfl
theorem wk_inst(t u:Tm):(wk t).inst u=t:=by
 unfold inst;rw[Yo,Xc]
theorem Hs(u:Tm)(q s:Nat->Tm):(fun n=>(cns u q n).sub s)=cns (u.sub s) (fun n=>(q n).sub s):=by
 funext n;cases n <;> rfl
theorem OB(u:Tm)(q s:Nat->Tm):(fun n=>(ups q n).sub (cns u s))=cns u (fun n=>(q n).sub s):=by
 funext n
 cases n with
 |zero=> rfl
 |succ n=> exact Yo _ _ _
theorem Tk(t u:Tm)(s:Nat->Tm):(t.inst u).sub s=(t.sub (ups s)).inst (u.sub s):=by
 unfold inst;rw[ws,ws,Hs,OB]
 congr 1
 funext n
 cases n with
 |zero=> rfl
 |succ n=> exact(Xc (s n)).symm
theorem MG(t u:Tm)(s:Nat->Tm):(t.sub (ups s)).inst u=t.sub (cns u s):=by
 unfold inst;rw[ws,OB]
 congr 1
 funext n
 cases n with
 |zero=> rfl
 |succ n=> exact Xc (s n)
theorem Mq(t u:Tm)(r:Nat->Nat):(t.inst u).ren r=(t.ren (upr r)).inst (u.ren r):=by
 rw[dm,Tk,dm t,dm u,ID]
theorem aw(t:Tm)(s:Nat->Tm):(wk t).sub (ups s)=wk (t.sub s):=by
 rw[Wz,wk,Cx];rfl
theorem iz(t:Tm)(r:Nat->Nat):(wk t).ren (upr r)=wk (t.ren r):=by
 rw[ren_ren,wk,ren_ren];rfl
end Tm
end Go.Proofs.YtckhbnmfnpolgaaGreat.M
namespace Go.Proofs.YtckhbnmfnpolgaaGreat.M
open Tm
inductive Par:Tm->Tm->Prop where
 |var (n):Par (var n) (var n)
 |sort (n):Par (sort n) (sort n)
 |pi {A A' B B'}:Par A A'->Par B B'->Par (pi A B) (pi A' B')
 |lam {A A' B B'}:Par A A'->Par B B'->Par (lam A B) (lam A' B')
 |app {A A' B B'}:Par A A'->Par B B'->Par (app A B) (app A' B')
 |nat:Par nat nat
 |zero:Par zero zero
 |succ {a a'}:Par a a'->Par (succ a) (succ a')
 |elim {p p' z z' s s' a a'}:Par p p'->Par z z'->Par s s'->Par a a'->Par (elim p z s a) (elim p' z' s' a')
 |id {T T' a a' b b'}:Par T T'->Par a a'->Par b b'->Par (Tm.id T a b) (Tm.id T' a' b')
 |refl {a a'}:Par a a'->Par (refl a) (refl a')
 |move {T T' a a' b b'}:Par T T'->Par a a'->Par b b'->Par (move T a b) (move T' a' b')
 |sg {A A' B B'}:Par A A'->Par B B'->Par (sg A B) (sg A' B')
 |pair {T T' a a' b b'}:Par T T'->Par a a'->Par b b'->Par (pair T a b) (pair T' a' b')
 |fst {a a'}:Par a a'->Par (fst a) (fst a')
 |snd {a a'}:Par a a'->Par (snd a) (snd a')
 |beta {A b b' a a'}:Par b b'->Par a a'->Par (app (lam A b) a) (b'.inst a')
 |ez {p z z' s}:Par z z'->Par (elim p z s zero) z'
 |es {p p' z z' s s' a a'}:Par p p'->Par z z'->Par s s'->Par a a'->Par (elim p z s (succ a)) (app (app s' a') (elim p' z' s' a'))
 |mr {p b a a'}:Par a a'->Par (move p (refl b) a) a'
 |fp {T a a' b}:Par a a'->Par (fst (pair T a b)) a'
 |sp {T a b b'}:Par b b'->Par (snd (pair T a b)) b'
theorem Par.rfl': ∀t:Tm,Par t t:=by
 intro t;induction t <;> constructor <;> assumption
theorem Par.ren{t a:Tm}(h:Par t a): ∀r,Par (t.ren r) (a.ren r):=by
 induction h with
 |beta e d b c=>
  intro r;rw[Mq];exact .beta (b _) (c _)
 |_=> intro r;simp only[Tm.ren];constructor <;> solve_by_elim
theorem Par.ups{s a:Nat->Tm}(h: ∀n,Par (s n) (a n)): ∀n,Par (ups s n) (ups a n):=by
 intro n;cases n with
 |zero=> exact .var 0
 |succ n=> exact(h n).ren _
theorem Par.sub{t f:Tm}(h:Par t f): ∀{s a:Nat->Tm},(∀n,Par (s n) (a n))->Par (t.sub s) (f.sub a):=by
 induction h with
 |var n=> intro s a hs;exact hs n
 |beta e d b c=>
  intro s a hs;rw[Tk];exact .beta (b (Par.ups hs)) (c hs)
 |pi e d b c=> intro s a hs;exact .pi (b hs) (c (Par.ups hs))
 |lam e d b c=> intro s a hs;exact .lam (b hs) (c (Par.ups hs))
 |sg e d b c=> intro s a hs;exact .sg (b hs) (c (Par.ups hs))
 |_=> intro s a hs;simp only[Tm.sub];constructor <;> solve_by_elim
theorem Par.cns{u a:Tm}(h:Par u a): ∀n,Par (Tm.cns u Tm.var n) (Tm.cns a Tm.var n):=by
 intro n;cases n with
 |zero=> exact h
 |succ n=> exact .var n
theorem Par.inst{t a u b:Tm}(h:Par t a)(k:Par u b):Par (t.inst u) (a.inst b):=h.sub (Par.cns k)
def T8:Tm->Tm
 | .app (.lam _ b) a=>(T8 b).inst (T8 a)
 | .elim _ z _ .zero=> T8 z
 | .elim p z s (.succ a)=> .app (.app (T8 s) (T8 a)) (.elim (T8 p) (T8 z) (T8 s) (T8 a))
 | .move _ (.refl _) a=> T8 a
 | .fst (.pair _ a _)=> T8 a
 | .snd (.pair _ _ b)=> T8 b
 | .var n=> .var n
 | .sort n=> .sort n
 | .pi A B=> .pi (T8 A) (T8 B)
 | .lam A t=> .lam (T8 A) (T8 t)
 | .app f a=> .app (T8 f) (T8 a)
 | .nat=> .nat
 | .zero=> .zero
 | .succ a=> .succ (T8 a)
 | .elim p z s a=> .elim (T8 p) (T8 z) (T8 s) (T8 a)
 | .id T a b=> .id (T8 T) (T8 a) (T8 b)
 | .refl a=> .refl (T8 a)
 | .move p e a=> .move (T8 p) (T8 e) (T8 a)
 | .sg A B=> .sg (T8 A) (T8 B)
 | .pair T a b=> .pair (T8 T) (T8 a) (T8 b)
 | .fst a=> .fst (T8 a)
 | .snd a=> .snd (T8 a)
theorem Par.tri{t C:Tm}(h:Par t C):Par C (T8 t):=by
 induction h with
 |beta m l d c=> exact d.inst c
 |ez h i=> exact i
 |es m l r o d c f g=> exact .app (.app f g) (.elim d c f g)
 |mr h i=> exact i
 |fp h i=> exact i
 |sp h i=> exact i
 | @app A I B K m l d c=>
  cases A with
  |lam X b=>
   cases m with
   |lam D v=>
    simp only[T8] at d⊢;cases d with
    |lam w n=> exact .beta n c
  |_=> simp only[T8] at d⊢;exact .app d c
 | @elim p E z H s G a q m l r o d c f g=>
  cases a with
  |zero=>
   cases o
   simp only[T8];exact .ez c
  |succ b=>
   cases o with
   |succ k=>
    simp only[T8] at g⊢;cases g with
    |succ j=> exact .es d c f j
  |_=> simp only[T8] at g⊢;exact .elim d c f g
 | @move p E e J a q m l r d c f=>
  cases e with
  |refl b=>
   cases l with
   |refl k=>
    simp only[T8] at c⊢;exact .mr f
  |_=> simp only[T8] at c⊢;exact .move d c f
 | @fst a q h i=>
  cases a with
  |pair T x y=>
   cases h with
   |pair D v F=>
    simp only[T8] at i⊢;cases i with
    |pair w n u=> exact .fp n
  |_=> simp only[T8] at i⊢;exact .fst i
 | @snd a q h i=>
  cases a with
  |pair T x y=>
   cases h with
   |pair D v F=>
    simp only[T8] at i⊢;cases i with
    |pair w n u=> exact .sp u
  |_=> simp only[T8] at i⊢;exact .snd i
 |_=> simp only[T8];constructor <;> assumption
inductive Red:Tm->Tm->Prop where
 |refl (t):Red t t
 |step {a b c}:Par a b->Red b c->Red a c
theorem Red.one{a b:Tm}(h:Par a b):Red a b:= .step h (.refl b)
theorem Red.trans{a b c:Tm}(h:Red a b)(k:Red b c):Red a c:=by
 induction h with
 |refl=> exact k
 |step d _ ih=> exact .step d (ih k)
theorem Red.strip{a b:Tm}(h:Red a b): ∀{c:Tm},Par a c-> ∃d,Par b d/\Red c d:=by
 induction h with
 |refl t=> intro c hc;exact⟨c,hc,.refl c⟩
 | @step a b d i j ih=>
  intro c hc;obtain⟨e,g,f⟩:=ih (c:=T8 a) i.tri;exact⟨e,g,.step hc.tri f⟩
theorem Red.meet{a b:Tm}(h:Red a b): ∀{c:Tm},Red a c-> ∃d,Red b d/\Red c d:=by
 induction h with
 |refl t=> intro c hc;exact⟨c,hc,.refl c⟩
 | @step a b d l m ih=>
  intro c hc;obtain⟨e,k,j⟩:=hc.strip l;obtain⟨f,i,g⟩:=ih j;exact⟨f,i,.step k g⟩
theorem Red.map{F:Tm->Tm}(hF: ∀{a b},Par a b->Par (F a) (F b)){a b:Tm}(h:Red a b):Red (F a) (F b):=by
 induction h with
 |refl=> exact .refl _
 |step c _ ih=> exact .step (hF c) ih
def Cv(a b:Tm):Prop:= ∃c,Red a c/\Red b c
theorem Cv.rfl'(a:Tm):Cv a a:=⟨a,.refl a,.refl a⟩
theorem Cv.symm{a b:Tm}(h:Cv a b):Cv b a:=by obtain⟨c,e,d⟩:=h;exact⟨c,d,e⟩
theorem Cv.trans{a b c:Tm}(h:Cv a b)(k:Cv b c):Cv a c:=by
 obtain⟨d,j,g⟩:=h;obtain⟨e,i,l⟩:=k;obtain⟨f,m,n⟩:=g.meet i;exact⟨f,j.trans m,l.trans n⟩
theorem Red.cv{a b:Tm}(h:Red a b):Cv a b:=⟨b,h,.refl b⟩
theorem Par.cv{a b:Tm}(h:Par a b):Cv a b:=(Red.one h).cv
theorem Cv.map{F:Tm->Tm}(hF: ∀{a b},Par a b->Par (F a) (F b)){a b:Tm}(h:Cv a b):Cv (F a) (F b):=by
 obtain⟨c,e,d⟩:=h;exact⟨F c,e.map hF,d.map hF⟩
theorem Cv.sub{a b:Tm}(h:Cv a b)(s:Nat->Tm):Cv (a.sub s) (b.sub s):=h.map (F:=fun t=> t.sub s) fun h=> h.sub fun n=> Par.rfl' _
theorem Cv.ren{a b:Tm}(h:Cv a b)(r:Nat->Nat):Cv (a.ren r) (b.ren r):=h.map (F:=fun t=> t.ren r) fun h=> h.ren r
theorem Cv.pi{A a B b:Tm}(h:Cv A a)(k:Cv B b):Cv (.pi A B) (.pi a b):=
 (h.map (F:=fun x=> .pi x B) fun h=> .pi h (Par.rfl' _)).trans (k.map (F:=fun x=> .pi a x) fun h=> .pi (Par.rfl' _) h)
theorem Cv.sg{A a B b:Tm}(h:Cv A a)(k:Cv B b):Cv (.sg A B) (.sg a b):=
 (h.map (F:=fun x=> .sg x B) fun h=> .sg h (Par.rfl' _)).trans (k.map (F:=fun x=> .sg a x) fun h=> .sg (Par.rfl' _) h)
theorem Cv.lam{A a B b:Tm}(h:Cv A a)(k:Cv B b):Cv (.lam A B) (.lam a b):=
 (h.map (F:=fun x=> .lam x B) fun h=> .lam h (Par.rfl' _)).trans (k.map (F:=fun x=> .lam a x) fun h=> .lam (Par.rfl' _) h)
theorem Cv.app{A a B b:Tm}(h:Cv A a)(k:Cv B b):Cv (.app A B) (.app a b):=
 (h.map (F:=fun x=> .app x B) fun h=> .app h (Par.rfl' _)).trans (k.map (F:=fun x=> .app a x) fun h=> .app (Par.rfl' _) h)
theorem Cv.id{T c a d b e:Tm}(h:Cv T c)(k:Cv a d)(l:Cv b e):Cv (.id T a b) (.id c d e):=
 ((h.map (F:=fun x=> .id x a b) fun h=> .id h (Par.rfl' _) (Par.rfl' _)).trans (k.map (F:=fun x=> .id c x b) fun h=> .id (Par.rfl' _) h (Par.rfl' _))).trans (l.map (F:=fun x=> .id c d x) fun h=> .id (Par.rfl' _) (Par.rfl' _) h)
theorem Cv.pair{T c a d b e:Tm}(h:Cv T c)(k:Cv a d)(l:Cv b e):Cv (.pair T a b) (.pair c d e):=
 ((h.map (F:=fun x=> .pair x a b) fun h=> .pair h (Par.rfl' _) (Par.rfl' _)).trans (k.map (F:=fun x=> .pair c x b) fun h=> .pair (Par.rfl' _) h (Par.rfl' _))).trans (l.map (F:=fun x=> .pair c d x) fun h=> .pair (Par.rfl' _) (Par.rfl' _) h)
theorem Cv.move{T c a d b e:Tm}(h:Cv T c)(k:Cv a d)(l:Cv b e):Cv (.move T a b) (.move c d e):=
 ((h.map (F:=fun x=> .move x a b) fun h=> .move h (Par.rfl' _) (Par.rfl' _)).trans (k.map (F:=fun x=> .move c x b) fun h=> .move (Par.rfl' _) h (Par.rfl' _))).trans (l.map (F:=fun x=> .move c d x) fun h=> .move (Par.rfl' _) (Par.rfl' _) h)
theorem Cv.elim{p b z c s d a e:Tm}(j:Cv p b)(f:Cv z c)(g:Cv s d)(i:Cv a e):Cv (.elim p z s a) (.elim b c d e):=
 (((j.map (F:=fun x=> .elim x z s a) fun h=> .elim h (Par.rfl' _) (Par.rfl' _) (Par.rfl' _)).trans (f.map (F:=fun x=> .elim b x s a) fun h=> .elim (Par.rfl' _) h (Par.rfl' _) (Par.rfl' _))).trans (g.map (F:=fun x=> .elim b c x a) fun h=> .elim (Par.rfl' _) (Par.rfl' _) h (Par.rfl' _))).trans (i.map (F:=fun x=> .elim b c d x) fun h=> .elim (Par.rfl' _) (Par.rfl' _) (Par.rfl' _) h)
theorem Cv.succ{a b:Tm}(h:Cv a b):Cv (.succ a) (.succ b):=h.map (F:=fun x=> .succ x) fun h=> .succ h
theorem Cv.refl{a b:Tm}(h:Cv a b):Cv (.refl a) (.refl b):=h.map (F:=fun x=> .refl x) fun h=> .refl h
theorem Cv.fst{a b:Tm}(h:Cv a b):Cv (.fst a) (.fst b):=h.map (F:=fun x=> .fst x) fun h=> .fst h
theorem Cv.snd{a b:Tm}(h:Cv a b):Cv (.snd a) (.snd b):=h.map (F:=fun x=> .snd x) fun h=> .snd h
theorem Cv.subs{s e:Nat->Tm}(h: ∀n,Cv (s n) (e n))(t:Tm):Cv (t.sub s) (t.sub e):=by
 have j: ∀{s e:Nat->Tm},(∀n,Cv (s n) (e n))-> ∀n,Cv (ups s n) (ups e n):=by
  intro s e h n;cases n with
  |zero=> exact Cv.rfl' _
  |succ n=> exact(h n).ren _
 induction t generalizing s e with
 |var n=> exact h n
 |sort n=> exact Cv.rfl' _
 |nat=> exact Cv.rfl' _
 |zero=> exact Cv.rfl' _
 |pi A B c d=> exact .pi (c h) (d (j h))
 |sg A B c d=> exact .sg (c h) (d (j h))
 |lam A B c d=> exact .lam (c h) (d (j h))
 |app f a c d=> exact .app (c h) (d h)
 |succ a i=> exact .succ (i h)
 |elim p z s a c d g k=> exact .elim (c h) (d h) (g h) (k h)
 |id T a b c d g=> exact .id (c h) (d h) (g h)
 |refl a i=> exact .refl (i h)
 |move T a b c d g=> exact .move (c h) (d h) (g h)
 |pair T a b c d g=> exact .pair (c h) (d h) (g h)
 |fst a i=> exact .fst (i h)
 |snd a i=> exact .snd (i h)
theorem Cv.cns{u b:Tm}{s a:Nat->Tm}(h:Cv u b)(k: ∀n,Cv (s n) (a n)): ∀n,Cv (cns u s n) (cns b a n):=by
 intro n;cases n with
 |zero=> exact h
 |succ n=> exact k n
theorem Cv.inst{t a u b:Tm}(h:Cv t a)(k:Cv u b):Cv (t.inst u) (a.inst b):=
 (h.sub _).trans (Cv.subs (Cv.cns k fun n=> Cv.rfl' _) a)
inductive Hd:Tm->Tm->Prop where
 |beta (A b a):Hd (.app (.lam A b) a) (b.inst a)
 |ez (p z s):Hd (.elim p z s .zero) z
 |es (p z s a):Hd (.elim p z s (.succ a)) (.app (.app s a) (.elim p z s a))
 |mr (p b a):Hd (.move p (.refl b) a) a
 |fp (T a b):Hd (.fst (.pair T a b)) a
 |sp (T a b):Hd (.snd (.pair T a b)) b
 |app {f f'} (a):Hd f f'->Hd (.app f a) (.app f' a)
 |elim {a a'} (p z s):Hd a a'->Hd (.elim p z s a) (.elim p z s a')
 |move {e e'} (p a):Hd e e'->Hd (.move p e a) (.move p e' a)
 |fst {a a'}:Hd a a'->Hd (.fst a) (.fst a')
 |snd {a a'}:Hd a a'->Hd (.snd a) (.snd a')
def hk:Tm->Nat
 | .sort _=> 2
 | .pi _ _=> 3
 | .lam _ _=> 4
 | .nat=> 6
 | .zero=> 7
 | .succ _=> 8
 | .id _ _ _=> 10
 | .refl _=> 11
 | .sg _ _=> 13
 | .pair _ _ _=> 14
 |_=> 0
theorem Hd.hk{t u:Tm}(h:Hd t u):Go.Proofs.YtckhbnmfnpolgaaGreat.M.hk t=0:=by cases h <;> rfl
theorem Hd.det{t u:Tm}(h:Hd t u): ∀{v:Tm},Hd t v->u=v:=by
 induction h with
 |beta A b a=> intro v k;cases k with
  |beta=> rfl
  |app _ k=> cases k
 |ez p z s=> intro v k;cases k with
  |ez=> rfl
  |elim _ _ _ k=> cases k
 |es p z s a=> intro v k;cases k with
  |es=> rfl
  |elim _ _ _ k=> cases k
 |mr p b a=> intro v k;cases k with
  |mr=> rfl
  |move _ _ k=> cases k
 |fp T a b=> intro v k;cases k with
  |fp=> rfl
  |fst k=> cases k
 |sp T a b=> intro v k;cases k with
  |sp=> rfl
  |snd k=> cases k
 |app a h ih=> intro v k;cases k with
  |beta=> cases h
  |app _ k=> rw[ih k]
 |elim p z s h ih=> intro v k;cases k with
  |ez=> cases h
  |es=> cases h
  |elim _ _ _ k=> rw[ih k]
 |move p a h ih=> intro v k;cases k with
  |mr=> cases h
  |move _ _ k=> rw[ih k]
 |fst h ih=> intro v k;cases k with
  |fp=> cases h
  |fst k=> rw[ih k]
 |snd h ih=> intro v k;cases k with
  |sp=> cases h
  |snd k=> rw[ih k]
theorem Hd.par{t u:Tm}(h:Hd t u):Par t u:=by
 induction h with
 |beta A b a=> exact .beta (Par.rfl' _) (Par.rfl' _)
 |ez=> exact .ez (Par.rfl' _)
 |es=> exact .es (Par.rfl' _) (Par.rfl' _) (Par.rfl' _) (Par.rfl' _)
 |mr=> exact .mr (Par.rfl' _)
 |fp=> exact .fp (Par.rfl' _)
 |sp=> exact .sp (Par.rfl' _)
 |app a h ih=> exact .app ih (Par.rfl' _)
 |elim p z s h ih=> exact .elim (Par.rfl' _) (Par.rfl' _) (Par.rfl' _) ih
 |move p a h ih=> exact .move (Par.rfl' _) ih (Par.rfl' _)
 |fst h ih=> exact .fst ih
 |snd h ih=> exact .snd ih
theorem Hd.sub{t u:Tm}(h:Hd t u)(s:Nat->Tm):Hd (t.sub s) (u.sub s):=by
 induction h with
 |beta A b a=> rw[Tk];exact .beta _ _ _
 |ez=> exact .ez _ _ _
 |es=> exact .es _ _ _ _
 |mr=> exact .mr _ _ _
 |fp=> exact .fp _ _ _
 |sp=> exact .sp _ _ _
 |app a h ih=> exact .app _ ih
 |elim p z s h ih=> exact .elim _ _ _ ih
 |move p a h ih=> exact .move _ _ ih
 |fst h ih=> exact .fst ih
 |snd h ih=> exact .snd ih
inductive HR:Tm->Tm->Prop where
 |refl (t):HR t t
 |step {a b c}:Hd a b->HR b c->HR a c
theorem HR.one{a b:Tm}(h:Hd a b):HR a b:= .step h (.refl b)
theorem HR.trans{a b c:Tm}(h:HR a b)(k:HR b c):HR a c:=by
 induction h with
 |refl=> exact k
 |step d _ ih=> exact .step d (ih k)
theorem HR.red{a b:Tm}(h:HR a b):Red a b:=by
 induction h with
 |refl=> exact .refl _
 |step c _ ih=> exact .step c.par ih
theorem HR.cv{a b:Tm}(h:HR a b):Cv a b:=h.red.cv
theorem HR.map{F:Tm->Tm}(hF: ∀{a b},Hd a b->Hd (F a) (F b)){a b:Tm}(h:HR a b):HR (F a) (F b):=by
 induction h with
 |refl=> exact .refl _
 |step c _ ih=> exact .step (hF c) ih
theorem HR.sub{a b:Tm}(h:HR a b)(s:Nat->Tm):HR (a.sub s) (b.sub s):=h.map (F:=fun t=> t.sub s) fun h=> h.sub s
theorem HR.ren{a b:Tm}(h:HR a b)(r:Nat->Nat):HR (a.ren r) (b.ren r):=by
 rw[dm,dm b];exact h.sub _
theorem HR.det{a b:Tm}(h:HR a b): ∀{c:Tm},HR a c->hk b≠0->hk c≠0->b=c:=by
 induction h with
 |refl t=>
  intro c k d hc;cases k with
  |refl=> rfl
  |step k _=> exact absurd k.hk d
 |step e i ih=>
  intro c k d hc;cases k with
  |refl=> exact absurd e.hk hc
  |step f g=>
   obtain rfl:=e.det f;exact ih g d hc
theorem HR.after{a b:Tm}(h:HR a b): ∀{c:Tm},HR a c->hk c≠0->HR b c:=by
 induction h with
 |refl t=> intro c k _;exact k
 |step d g ih=>
  intro c k hc;cases k with
  |refl=> exact absurd d.hk hc
  |step e f=>
   obtain rfl:=d.det e;exact ih f hc
inductive Ip:Tm->Tm->Prop where
 |var (n):Ip (.var n) (.var n)
 |sort (n):Ip (.sort n) (.sort n)
 |pi {A A' B B'}:Par A A'->Par B B'->Ip (.pi A B) (.pi A' B')
 |lam {A A' B B'}:Par A A'->Par B B'->Ip (.lam A B) (.lam A' B')
 |app {A A' B B'}:Ip A A'->Par B B'->Ip (.app A B) (.app A' B')
 |nat:Ip .nat .nat
 |zero:Ip .zero .zero
 |succ {a a'}:Par a a'->Ip (.succ a) (.succ a')
 |elim {p p' z z' s s' a a'}:Par p p'->Par z z'->Par s s'->Ip a a'->Ip (.elim p z s a) (.elim p' z' s' a')
 |id {T T' a a' b b'}:Par T T'->Par a a'->Par b b'->Ip (.id T a b) (.id T' a' b')
 |refl {a a'}:Par a a'->Ip (.refl a) (.refl a')
 |move {T T' a a' b b'}:Par T T'->Ip a a'->Par b b'->Ip (.move T a b) (.move T' a' b')
 |sg {A A' B B'}:Par A A'->Par B B'->Ip (.sg A B) (.sg A' B')
 |pair {T T' a a' b b'}:Par T T'->Par a a'->Par b b'->Ip (.pair T a b) (.pair T' a' b')
 |fst {a a'}:Ip a a'->Ip (.fst a) (.fst a')
 |snd {a a'}:Ip a a'->Ip (.snd a) (.snd a')
def Fc(t a:Tm):Prop:= ∃s,HR t s/\Ip s a
theorem Ip.sub{t g:Tm}(h:Ip t g){s f:Nat->Tm}(hs: ∀n,Par (s n) (f n))(hf: ∀n,Fc (s n) (f n)):Fc (t.sub s) (g.sub f):=by
 induction h with
 |var n=> exact hf n
 |sort n=> exact⟨_,.refl _,.sort n⟩
 |nat=> exact⟨_,.refl _,.nat⟩
 |zero=> exact⟨_,.refl _,.zero⟩
 |pi a b=> exact⟨_,.refl _,.pi (a.sub hs) (b.sub (Par.ups hs))⟩
 |lam a b=> exact⟨_,.refl _,.lam (a.sub hs) (b.sub (Par.ups hs))⟩
 |sg a b=> exact⟨_,.refl _,.sg (a.sub hs) (b.sub (Par.ups hs))⟩
 |succ a=> exact⟨_,.refl _,.succ (a.sub hs)⟩
 |refl a=> exact⟨_,.refl _,.refl (a.sub hs)⟩
 |id a b e=> exact⟨_,.refl _,.id (a.sub hs) (b.sub hs) (e.sub hs)⟩
 |pair a b e=> exact⟨_,.refl _,.pair (a.sub hs) (b.sub hs) (e.sub hs)⟩
 |app a b ih=>
  obtain⟨u,d,c⟩:=ih;exact⟨_,d.map (F:=fun x=> .app x _) fun h=> .app _ h,.app c (b.sub hs)⟩
 |elim a b e i ih=>
  obtain⟨u,d,c⟩:=ih;exact⟨_,d.map (F:=fun x=> .elim _ _ _ x) fun h=> .elim _ _ _ h,.elim (a.sub hs) (b.sub hs) (e.sub hs) c⟩
 |move a b e ih=>
  obtain⟨u,d,c⟩:=ih;exact⟨_,d.map (F:=fun x=> .move _ x _) fun h=> .move _ _ h,.move (a.sub hs) c (e.sub hs)⟩
 |fst a ih=>
  obtain⟨u,d,c⟩:=ih;exact⟨_,d.map (F:=fun x=> .fst x) fun h=> .fst h,.fst c⟩
 |snd a ih=>
  obtain⟨u,d,c⟩:=ih;exact⟨_,d.map (F:=fun x=> .snd x) fun h=> .snd h,.snd c⟩
theorem Par.fc{t m:Tm}(h:Par t m):Fc t m:=by
 induction h with
 |var n=> exact⟨_,.refl _,.var n⟩
 |sort n=> exact⟨_,.refl _,.sort n⟩
 |nat=> exact⟨_,.refl _,.nat⟩
 |zero=> exact⟨_,.refl _,.zero⟩
 |pi c f=> exact⟨_,.refl _,.pi c f⟩
 |lam c f=> exact⟨_,.refl _,.lam c f⟩
 |sg c f=> exact⟨_,.refl _,.sg c f⟩
 |succ c=> exact⟨_,.refl _,.succ c⟩
 |refl c=> exact⟨_,.refl _,.refl c⟩
 |id c f g=> exact⟨_,.refl _,.id c f g⟩
 |pair c f g=> exact⟨_,.refl _,.pair c f g⟩
 |app c f i j=>
  obtain⟨u,e,d⟩:=i;exact⟨_,e.map (F:=fun x=> .app x _) fun h=> .app _ h,.app d f⟩
 |elim c f g l i j k ih=>
  obtain⟨u,e,d⟩:=ih;exact⟨_,e.map (F:=fun x=> .elim _ _ _ x) fun h=> .elim _ _ _ h,.elim c f g d⟩
 |move c f g i ih k=>
  obtain⟨u,e,d⟩:=ih;exact⟨_,e.map (F:=fun x=> .move _ x _) fun h=> .move _ _ h,.move c d g⟩
 |fst c ih=>
  obtain⟨u,e,d⟩:=ih;exact⟨_,e.map (F:=fun x=> .fst x) fun h=> .fst h,.fst d⟩
 |snd c ih=>
  obtain⟨u,e,d⟩:=ih;exact⟨_,e.map (F:=fun x=> .snd x) fun h=> .snd h,.snd d⟩
 | @beta A b q a r c f i j=>
  obtain⟨u,e,d⟩:=i;have g:=d.sub (Par.cns f) (fun n=> by
   cases n with
   |zero=> exact j
   |succ n=> exact⟨_,.refl _,.var n⟩)
  obtain⟨v,o,p⟩:=g;exact⟨v,.step (.beta A b a) ((e.sub _).trans o),p⟩
 |ez h ih=>
  obtain⟨u,e,d⟩:=ih;exact⟨u,.step (.ez _ _ _) e,d⟩
 |es c f g l i j k s=>
  obtain⟨u,e,d⟩:=k;exact⟨_,.step (.es _ _ _ _) (e.map (F:=fun x=> .app (.app x _) _) fun h=> .app _ (.app _ h)),.app (.app d l) (.elim c f g l)⟩
 |mr h ih=>
  obtain⟨u,e,d⟩:=ih;exact⟨u,.step (.mr _ _ _) e,d⟩
 |fp h ih=>
  obtain⟨u,e,d⟩:=ih;exact⟨u,.step (.fp _ _ _) e,d⟩
 |sp h ih=>
  obtain⟨u,e,d⟩:=ih;exact⟨u,.step (.sp _ _ _) e,d⟩
theorem Ip.par{s t:Tm}(h:Ip s t):Par s t:=by
 induction h <;> constructor <;> assumption
theorem Ip.hd{t u:Tm}(k:Hd t u): ∀{s:Tm},Ip s t-> ∃j,Hd s j/\Par j u:=by
 induction k with
 |beta A b a=>
  intro s h;cases h with
  |app c d=>
   cases c with
   |lam e f=> exact⟨_,.beta _ _ _,f.inst d⟩
 |ez p z s=>
  intro s h;cases h with
  |elim c d e f=>
   cases f
   exact⟨_,.ez _ _ _,d⟩
 |es p z s a=>
  intro s h;cases h with
  |elim c d e f=>
   cases f with
   |succ l=> exact⟨_,.es _ _ _ _,.app (.app e l) (.elim c d e l)⟩
 |mr p b a=>
  intro s h;cases h with
  |move c d e=>
   cases d with
   |refl f=> exact⟨_,.mr _ _ _,e⟩
 |fp T a b=>
  intro s h;cases h with
  |fst c=>
   cases c with
   |pair d e f=> exact⟨_,.fp _ _ _,e⟩
 |sp T a b=>
  intro s h;cases h with
  |snd c=>
   cases c with
   |pair d e f=> exact⟨_,.sp _ _ _,f⟩
 |app a k ih=>
  intro s h;cases h with
  |app c d=>
   obtain⟨j,i,g⟩:=ih c;exact⟨_,.app _ i,.app g d⟩
 |elim p z s k ih=>
  intro s h;cases h with
  |elim c d e f=>
   obtain⟨j,i,g⟩:=ih f;exact⟨_,.elim _ _ _ i,.elim c d e g⟩
 |move p a k ih=>
  intro s h;cases h with
  |move c d e=>
   obtain⟨j,i,g⟩:=ih d;exact⟨_,.move _ _ i,.move c g e⟩
 |fst k ih=>
  intro s h;cases h with
  |fst c=>
   obtain⟨j,i,g⟩:=ih c;exact⟨_,.fst i,.fst g⟩
 |snd k ih=>
  intro s h;cases h with
  |snd c=>
   obtain⟨j,i,g⟩:=ih c;exact⟨_,.snd i,.snd g⟩
theorem Par.hr{t1 t2:Tm}(k:HR t1 t2): ∀{t:Tm},Par t t1-> ∃a,HR t a/\Par a t2:=by
 induction k with
 |refl=> intro t h;exact⟨t,.refl t,h⟩
 |step g j ih=>
  intro t h;obtain⟨s,e,c⟩:=h.fc;obtain⟨i,d,f⟩:=c.hd g;obtain⟨a,m1,b⟩:=ih f;exact⟨a,(e.trans (.one d)).trans m1,b⟩
theorem Ip.hk{s t:Tm}(h:Ip s t):Go.Proofs.YtckhbnmfnpolgaaGreat.M.hk s=Go.Proofs.YtckhbnmfnpolgaaGreat.M.hk t:=by cases h <;> rfl
theorem Par.hk{s t:Tm}(h:Par s t)(hs:Go.Proofs.YtckhbnmfnpolgaaGreat.M.hk s≠0):Go.Proofs.YtckhbnmfnpolgaaGreat.M.hk t=Go.Proofs.YtckhbnmfnpolgaaGreat.M.hk s:=by
 cases h <;> first|rfl|exact absurd rfl hs
theorem Red.hk{s t:Tm}(h:Red s t)(hs:Go.Proofs.YtckhbnmfnpolgaaGreat.M.hk s≠0):Go.Proofs.YtckhbnmfnpolgaaGreat.M.hk t=Go.Proofs.YtckhbnmfnpolgaaGreat.M.hk s:=by
 induction h with
 |refl=> rfl
 |step a _ ih=> rw[ih (by rw[a.hk hs];exact hs),a.hk hs]
theorem Red.can{t c:Tm}(h:Red t c)(hc:Go.Proofs.YtckhbnmfnpolgaaGreat.M.hk c≠0): ∃a,HR t a/\Go.Proofs.YtckhbnmfnpolgaaGreat.M.hk a=Go.Proofs.YtckhbnmfnpolgaaGreat.M.hk c/\Red a c:=by
 induction h with
 |refl t=> exact⟨t,.refl t,rfl,.refl t⟩
 |step j l ih=>
  obtain⟨k,f,d,g⟩:=ih hc;obtain⟨m,e,i⟩:=Par.hr f j;obtain⟨s,m1,b⟩:=i.fc;exact⟨s,e.trans m1,b.hk.trans d,.step b.par g⟩
theorem Cv.can{t c:Tm}(h:Cv t c)(hc:Go.Proofs.YtckhbnmfnpolgaaGreat.M.hk c≠0): ∃a,HR t a/\Go.Proofs.YtckhbnmfnpolgaaGreat.M.hk a=Go.Proofs.YtckhbnmfnpolgaaGreat.M.hk c/\Cv a c:=by
 obtain⟨d,i,b⟩:=h;have hd:=b.hk hc;obtain⟨a,e,g,f⟩:=i.can (by rw[hd];exact hc);exact⟨a,e,g.trans hd,d,f,b⟩
theorem Red.pi_inv{A B c:Tm}(h:Red (.pi A B) c): ∃a b,c= .pi a b/\Red A a/\Red B b:=by
 generalize ht:Tm.pi A B=t at h
 induction h generalizing A B with
 |refl=> exact⟨A,B,ht.symm,.refl _,.refl _⟩
 |step j _ ih=>
  subst ht;cases j with
  |pi g d=>
   obtain⟨a,b,e,f,i⟩:=ih rfl;exact⟨a,b,e,.step g f,.step d i⟩
theorem Red.sg_inv{A B c:Tm}(h:Red (.sg A B) c): ∃a b,c= .sg a b/\Red A a/\Red B b:=by
 generalize ht:Tm.sg A B=t at h
 induction h generalizing A B with
 |refl=> exact⟨A,B,ht.symm,.refl _,.refl _⟩
 |step j _ ih=>
  subst ht;cases j with
  |sg g d=>
   obtain⟨a,b,e,f,i⟩:=ih rfl;exact⟨a,b,e,.step g f,.step d i⟩
theorem Red.id_inv{T a b c:Tm}(h:Red (.id T a b) c): ∃g f d,c= .id g f d/\Red T g/\Red a f/\Red b d:=by
 generalize ht:Tm.id T a b=t at h
 induction h generalizing T a b with
 |refl=> exact⟨T,a,b,ht.symm,.refl _,.refl _,.refl _⟩
 |step r _ ih=>
  subst ht;cases r with
  |id n j o=>
   obtain⟨m,q,i,e,k,p,l⟩:=ih rfl;exact⟨m,q,i,e,.step n k,.step j p,.step o l⟩
theorem Red.sort_inv{n:Nat}{c:Tm}(h:Red (.sort n) c):c= .sort n:=by
 generalize ht:Tm.sort n=t at h
 induction h with
 |refl=> rfl
 |step a _ ih=> subst ht;cases a;exact ih rfl
theorem Cv.pi_inj{A B a b:Tm}(h:Cv (.pi A B) (.pi a b)):Cv A a/\Cv B b:=by
 obtain⟨c,i,d⟩:=h;obtain⟨X,Y,rfl,g,j⟩:=i.pi_inv;obtain⟨m,l,e,k,f⟩:=d.pi_inv;simp only[Tm.pi.injEq] at e;obtain⟨rfl,rfl⟩:=e;exact⟨⟨_,g,k⟩,⟨_,j,f⟩⟩
theorem Cv.sg_inj{A B a b:Tm}(h:Cv (.sg A B) (.sg a b)):Cv A a/\Cv B b:=by
 obtain⟨c,i,d⟩:=h;obtain⟨X,Y,rfl,g,j⟩:=i.sg_inv;obtain⟨m,l,e,k,f⟩:=d.sg_inv;simp only[Tm.sg.injEq] at e;obtain⟨rfl,rfl⟩:=e;exact⟨⟨_,g,k⟩,⟨_,j,f⟩⟩
theorem Cv.id_inj{T a b g f d:Tm}(h:Cv (.id T a b) (.id g f d)):Cv T g/\Cv a f/\Cv b d:=by
 obtain⟨c,p,l⟩:=h;obtain⟨X,Y,Z,rfl,m,i,n⟩:=p.id_inv;obtain⟨r,q,s,e,j,o,k⟩:=l.id_inv;simp only[Tm.id.injEq] at e;obtain⟨rfl,rfl,rfl⟩:=e;exact⟨⟨_,m,j⟩,⟨_,i,o⟩,⟨_,n,k⟩⟩
theorem Cv.sort_inj{n m:Nat}(h:Cv (.sort n) (.sort m)):n=m:=by
 obtain⟨c,b,a⟩:=h;have:=b.sort_inv.symm.trans a.sort_inv
 simpa using this
theorem Cv.hk{a b:Tm}(h:Cv a b)(d:Go.Proofs.YtckhbnmfnpolgaaGreat.M.hk a≠0)(f:Go.Proofs.YtckhbnmfnpolgaaGreat.M.hk b≠0):Go.Proofs.YtckhbnmfnpolgaaGreat.M.hk a=Go.Proofs.YtckhbnmfnpolgaaGreat.M.hk b:=by
 obtain⟨c,g,e⟩:=h;exact(g.hk d).symm.trans (e.hk f)
theorem Cv.to_pi{T C R:Tm}(h:Cv T (.pi C R)): ∃b a,HR T (.pi b a)/\Cv b C/\Cv a R:=by
 obtain⟨c,i,d,e⟩:=h.can (by simp[Go.Proofs.YtckhbnmfnpolgaaGreat.M.hk]);cases c <;> simp only[Go.Proofs.YtckhbnmfnpolgaaGreat.M.hk] at d <;> first|omega|(obtain⟨f,g⟩:=e.pi_inj;exact⟨_,_,i,f,g⟩)
theorem Cv.to_sg{T C R:Tm}(h:Cv T (.sg C R)): ∃b a,HR T (.sg b a)/\Cv b C/\Cv a R:=by
 obtain⟨c,i,d,e⟩:=h.can (by simp[Go.Proofs.YtckhbnmfnpolgaaGreat.M.hk]);cases c <;> simp only[Go.Proofs.YtckhbnmfnpolgaaGreat.M.hk] at d <;> first|omega|(obtain⟨f,g⟩:=e.sg_inj;exact⟨_,_,i,f,g⟩)
theorem Cv.to_id{T X a b:Tm}(h:Cv T (.id X a b)): ∃f e d,HR T (.id f e d)/\Cv f X/\Cv e a/\Cv d b:=by
 obtain⟨c,m,g,i⟩:=h.can (by simp[Go.Proofs.YtckhbnmfnpolgaaGreat.M.hk]);cases c <;> simp only[Go.Proofs.YtckhbnmfnpolgaaGreat.M.hk] at g <;> first|omega|(obtain⟨j,l,k⟩:=i.id_inj;exact⟨_,_,_,m,j,l,k⟩)
theorem Cv.to_sort{T:Tm}{n:Nat}(h:Cv T (.sort n)):HR T (.sort n):=by
 obtain⟨c,a,b,d⟩:=h.can (by simp[Go.Proofs.YtckhbnmfnpolgaaGreat.M.hk]);cases c <;> simp only[Go.Proofs.YtckhbnmfnpolgaaGreat.M.hk] at b <;> first|omega|(rw[d.sort_inj] at a;exact a)
theorem Cv.to_nat{T:Tm}(h:Cv T .nat):HR T .nat:=by
 obtain⟨c,b,a,d⟩:=h.can (by simp[Go.Proofs.YtckhbnmfnpolgaaGreat.M.hk]);cases c <;> simp only[Go.Proofs.YtckhbnmfnpolgaaGreat.M.hk] at a <;> first|omega|exact b
def lk(G:List Tm)(n:Nat):Option Tm:=(G[n]?).map fun A=> A.ren (fun i=> i+(n+1))
def stepTy(p:Tm):Tm:= .pi .nat (.pi (.app (wk p) (.var 0)) (.app (p.ren (fun i=> i+2)) (.succ (.var 1))))
inductive Ty:List Tm->Tm->Tm->Prop where
 |var {G n A}:lk G n=some A->Ty G (.var n) A
 |sort {G n}:Ty G (.sort n) (.sort (n+1))
 |nat {G}:Ty G .nat (.sort 0)
 |zero {G}:Ty G .zero .nat
 |succ {G a A}:Ty G a A->Cv A .nat->Ty G (.succ a) .nat
 |pi {G A B S S' i k}:Ty G A S->HR S (.sort i)->Ty (A::G) B S'->HR S' (.sort k)->Ty G (.pi A B) (.sort (max i k))
 |sg {G A B S S' i k}:Ty G A S->HR S (.sort i)->Ty (A::G) B S'->HR S' (.sort k)->Ty G (.sg A B) (.sort (max i k))
 |lam {G A t B S i}:Ty G A S->HR S (.sort i)->Ty (A::G) t B->Ty G (.lam A t) (.pi A B)
 |app {G f a F A C R}:Ty G f F->HR F (.pi C R)->Ty G a A->Cv A C->Ty G (.app f a) (R.inst a)
 |elim {G p z s a F Z S A C D k}:Ty G p F->HR F (.pi C D)->Cv C .nat->HR D (.sort k)->Ty G z Z->Cv Z (.app p .zero)->Ty G s S->Cv S (stepTy p)->Ty G a A->Cv A .nat->Ty G (.elim p z s a) (.app p a)
 |id {G T a b S A B i}:Ty G T S->HR S (.sort i)->Ty G a A->Cv A T->Ty G b B->Cv B T->Ty G (.id T a b) (.sort i)
 |refl {G a A}:Ty G a A->Ty G (.refl a) (.id A a a)
 |move {G p e a E T B C F T' D k A}:Ty G e E->HR E (.id T B C)->Ty G p F->HR F (.pi T' D)->Cv T' T->HR D (.sort k)->Ty G a A->Cv A (.app p B)->Ty G (.move p e a) (.app p C)
 |pair {G T a b S i C D A B}:Ty G T S->HR S (.sort i)->HR T (.sg C D)->Ty G a A->Cv A C->Ty G b B->Cv B (D.inst a)->Ty G (.pair T a b) T
 |fst {G a A C D}:Ty G a A->HR A (.sg C D)->Ty G (.fst a) C
 |snd {G a A C D}:Ty G a A->HR A (.sg C D)->Ty G (.snd a) (D.inst (.fst a))
theorem HR.pi_det{T C R b a:Tm}(h:HR T (.pi C R))(k:HR T (.pi b a)):C=b/\R=a:=by
 have:=h.det k (by simp[hk]) (by simp[hk])
 simpa using this
theorem HR.sg_det{T C R b a:Tm}(h:HR T (.sg C R))(k:HR T (.sg b a)):C=b/\R=a:=by
 have:=h.det k (by simp[hk]) (by simp[hk])
 simpa using this
theorem HR.id_det{T X a b e d c:Tm}(h:HR T (.id X a b))(k:HR T (.id e d c)):X=e/\a=d/\b=c:=by
 have:=h.det k (by simp[hk]) (by simp[hk])
 simpa using this
theorem HR.sort_det{T:Tm}{i j:Nat}(h:HR T (.sort i))(k:HR T (.sort j)):i=j:=by
 have:=h.det k (by simp[hk]) (by simp[hk])
 simpa using this
theorem Ty.det{G:List Tm}{t A:Tm}(h:Ty G t A): ∀{B:Tm},Ty G t B->A=B:=by
 induction h with
 |var h=> intro B k;cases k with|var k=> rw[h] at k;exact cN k
 |sort=> intro B k;cases k;rfl
 |nat=> intro B k;cases k;rfl
 |zero=> intro B k;cases k;rfl
 |succ=> intro B k;cases k;rfl
 |pi f c l g a e=>
  intro B k;cases k with
  |pi d b j m=>
   obtain rfl:=a d;obtain rfl:=e j;rw[c.sort_det b,g.sort_det m]
 |sg f c l g a e=>
  intro B k;cases k with
  |sg d b j m=>
   obtain rfl:=a d;obtain rfl:=e j;rw[c.sort_det b,g.sort_det m]
 |lam f c l a e=>
  intro B k;cases k with
  |lam d b j=> rw[e j]
 |app f c l g a e=>
  intro B k;cases k with
  |app d b j m=>
   obtain rfl:=a d;obtain⟨-,rfl⟩:=c.pi_det b
   rfl
 |elim=> intro B k;cases k;rfl
 |id f c l g o p a e n=>
  intro B k;cases k with
  |id d b=>
   obtain rfl:=a d;rw[c.sort_det b]
 |refl h i=> intro B k;cases k with|refl k=> rw[i k]
 |move f c l g o p q h8 a e n=>
  intro B k;cases k with
  |move d b=>
   obtain rfl:=a d;obtain⟨-,-,rfl⟩:=c.id_det b
   rfl
 |pair=> intro B k;cases k;rfl
 |fst f c a=>
  intro B k;cases k with
  |fst d b=>
   obtain rfl:=a d;exact(c.sg_det b).1
 |snd f c a=>
  intro B k;cases k with
  |snd d b=>
   obtain rfl:=a d;rw[(c.sg_det b).2]
def RenOk(G D:List Tm)(r:Nat->Nat):Prop:= ∀n A,lk G n=some A->lk D (r n)=some (A.ren r)
theorem lk_zero(A:Tm)(G:List Tm):lk (A::G) 0=some (wk A):=rfl
theorem q63(A:Tm)(G:List Tm)(n:Nat):lk (A::G) (n+1)=(lk G n).map wk:=by
 unfold lk;rw[List.getElem?_cons_succ,Option.map_map]
 congr 1
 funext B
 show _=(B.ren _).ren _
 rw[ren_ren]
 rfl
theorem RenOk.up{G D:List Tm}{r:Nat->Nat}(h:RenOk G D r)(A:Tm):RenOk (A::G) (A.ren r::D) (upr r):=by
 intro n B a;cases n with
 |zero=>
  rw[lk_zero] at a;obtain rfl:=cN a
  show lk (A.ren r::D) 0=_
  rw[lk_zero,iz]
 |succ n=>
  rw[q63] at a;obtain⟨X,b,rfl⟩:=Option.map_eq_some_iff.1 a
  show lk (A.ren r::D) (r n+1)=_
  rw[q63,h n X b,iz]
  rfl
theorem RenOk.wk(A:Tm)(G:List Tm):RenOk G (A::G) Nat.succ:=by
 intro n B a
 show lk (A::G) (n+1)=_
 rw[q63,a]
 rfl
theorem GI(p:Tm)(r:Nat->Nat):(stepTy p).ren r=stepTy (p.ren r):=by
 unfold stepTy;simp only[Tm.ren,upr];rw[iz,ren_ren,ren_ren]
 rfl
theorem Ty.ren{G:List Tm}{t A:Tm}(h:Ty G t A): ∀{D:List Tm} {r:Nat->Nat},RenOk G D r->Ty D (t.ren r) (A.ren r):=by
 induction h with
 |var h=> intro D r hr;exact .var (hr _ _ h)
 |sort=> intro D r hr;exact .sort
 |nat=> intro D r hr;exact .nat
 |zero=> intro D r hr;exact .zero
 |succ e b a=> intro D r hr;exact .succ (a hr) (b.ren r)
 |pi e b f d a c=> intro D r hr;exact .pi (a hr) (b.ren r) (c (hr.up _)) (d.ren (upr r))
 |sg e b f d a c=> intro D r hr;exact .sg (a hr) (b.ren r) (c (hr.up _)) (d.ren (upr r))
 |lam e b f a c=> intro D r hr;exact .lam (a hr) (b.ren r) (c (hr.up _))
 |app e b f d a c=> intro D r hr;rw[Mq];exact .app (a hr) (b.ren r) (c hr) (d.ren r)
 |elim e b f d k j m h8 o l a c g n=>
  intro D r hr;exact .elim (a hr) (b.ren r) (f.ren r) (d.ren (upr r)) (c hr) (j.ren r) (g hr) (by rw[<-GI];exact h8.ren r) (n hr) (l.ren r)
 |id e b f d k j a c g=> intro D r hr;exact .id (a hr) (b.ren r) (c hr) (d.ren r) (g hr) (j.ren r)
 |refl h i=> intro D r hr;exact .refl (i hr)
 |move e b f d k j m h8 a c g=> intro D r hr;exact .move (a hr) (b.ren r) (c hr) (d.ren r) (k.ren r) (j.ren (upr r)) (g hr) (h8.ren r)
 |pair e b f d k j m a c g=> intro D r hr;exact .pair (a hr) (b.ren r) (f.ren r) (c hr) (k.ren r) (g hr) (by rw[<-Mq];exact m.ren r)
 |fst e b a=> intro D r hr;exact .fst (a hr) (b.ren r)
 |snd e b a=> intro D r hr;rw[Mq];exact .snd (a hr) (b.ren r)
theorem Ty.wk{G:List Tm}{t A:Tm}(h:Ty G t A)(X:Tm):Ty (X::G) (Tm.wk t) (Tm.wk A):=h.ren (RenOk.wk X G)
def Vb(G D:List Tm)(s:Nat->Tm):Prop:= ∀n A,lk G n=some A-> ∃X,Ty D (s n) X/\Cv X (A.sub s)
theorem Vb.up{G D:List Tm}{s:Nat->Tm}(h:Vb G D s)(A:Tm):Vb (A::G) (A.sub s::D) (ups s):=by
 intro n B a;cases n with
 |zero=>
  rw[lk_zero] at a;obtain rfl:=cN a;exact⟨_,.var (lk_zero _ _),by rw[aw];exact Cv.rfl' _⟩
 |succ n=>
  rw[q63] at a;obtain⟨X,d,rfl⟩:=Option.map_eq_some_iff.1 a;obtain⟨Y,b,c⟩:=h n X d;exact⟨_,b.wk _,by rw[aw];exact c.ren _⟩
theorem Vb.cns{G D:List Tm}{s:Nat->Tm}(h:Vb G D s){A u X:Tm}(c:Ty D u X)(e:Cv X (A.sub s)):Vb (A::G) D (Tm.cns u s):=by
 intro n B a;cases n with
 |zero=>
  rw[lk_zero] at a;obtain rfl:=cN a;exact⟨X,c,by rw[Yo];exact e⟩
 |succ n=>
  rw[q63] at a;obtain⟨Y,f,rfl⟩:=Option.map_eq_some_iff.1 a;obtain⟨Z,d,b⟩:=h n Y f;exact⟨Z,d,by rw[Yo];exact b⟩
theorem Vb.var(G:List Tm):Vb G G Tm.var:=by
 intro n A h;exact⟨A,.var h,by rw[Xc];exact Cv.rfl' _⟩
theorem UA(p:Tm)(s:Nat->Tm):(stepTy p).sub s=stepTy (p.sub s):=by
 unfold stepTy;simp only[Tm.sub,ups];rw[aw,Wz,Cx]
 congr 3
 · congr 1
   funext n
   exact ren_ren _ _ _
theorem Cv.stepTy{p q:Tm}(h:Cv p q):Cv (Go.Proofs.YtckhbnmfnpolgaaGreat.M.stepTy p) (Go.Proofs.YtckhbnmfnpolgaaGreat.M.stepTy q):=
 .pi (Cv.rfl' _) (.pi (.app (h.ren _) (Cv.rfl' _)) (.app (h.ren _) (Cv.rfl' _)))
theorem Ty.sub{G:List Tm}{t A:Tm}(h:Ty G t A): ∀{D:List Tm} {s:Nat->Tm},Vb G D s-> ∃o,Ty D (t.sub s) o/\Cv o (A.sub s):=by
 induction h with
 |var h=> intro D s hs;exact hs _ _ h
 |sort=> intro D s hs;exact⟨_,.sort,Cv.rfl' _⟩
 |nat=> intro D s hs;exact⟨_,.nat,Cv.rfl' _⟩
 |zero=> intro D s hs;exact⟨_,.zero,Cv.rfl' _⟩
 |succ w j g=>
  intro D s hs;obtain⟨o,c,d⟩:=g hs;exact⟨_,.succ c (d.trans (j.sub s)),Cv.rfl' _⟩
 |pi w j x r g m=>
  intro D s hs;obtain⟨o,c,d⟩:=g hs;obtain⟨K,l,n⟩:=m (hs.up _);exact⟨_,.pi c (d.trans (j.sub s).cv).to_sort l (n.trans (r.sub (ups s)).cv).to_sort,Cv.rfl' _⟩
 |sg w j x r g m=>
  intro D s hs;obtain⟨o,c,d⟩:=g hs;obtain⟨K,l,n⟩:=m (hs.up _);exact⟨_,.sg c (d.trans (j.sub s).cv).to_sort l (n.trans (r.sub (ups s)).cv).to_sort,Cv.rfl' _⟩
 |lam w j x g m=>
  intro D s hs;obtain⟨o,c,d⟩:=g hs;obtain⟨K,l,n⟩:=m (hs.up _);exact⟨_,.lam c (d.trans (j.sub s).cv).to_sort l,.pi (Cv.rfl' _) n⟩
 | @app G f a F A C R w j x r g m=>
  intro D s hs;obtain⟨U,c,d⟩:=g hs;obtain⟨o,l,n⟩:=m hs;obtain⟨I,V,m1,v,L⟩:=(d.trans (j.sub s).cv).to_pi;exact⟨_,.app c m1 l ((n.trans (r.sub s)).trans v.symm),by rw[Tk];exact L.inst (Cv.rfl' _)⟩
 | @elim G p z s a F Z S A C D k w j x r J H N h8 h9 O g m y W=>
  intro D q u;obtain⟨U,c,d⟩:=g u;obtain⟨Z',l,n⟩:=m u;obtain⟨S',m1,v⟩:=y u;obtain⟨o,M,P⟩:=W u;obtain⟨I,D',o1,o2,Q⟩:=(d.trans (j.sub q).cv).to_pi;exact⟨_,.elim c o1 (o2.trans (x.sub q)) (Q.trans (r.sub (ups q)).cv).to_sort l (n.trans (H.sub q)) m1 (v.trans (by rw[<-UA];exact h8.sub q)) M (P.trans (O.sub q)),Cv.rfl' _⟩
 |id w j x r J H g m y=>
  intro D s hs;obtain⟨o,c,d⟩:=g hs;obtain⟨K,l,n⟩:=m hs;obtain⟨I,m1,v⟩:=y hs;exact⟨_,.id c (d.trans (j.sub s).cv).to_sort l (n.trans (r.sub s)) m1 (v.trans (H.sub s)),Cv.rfl' _⟩
 |refl h i=>
  intro D s hs;obtain⟨o,c,d⟩:=i hs;exact⟨_,.refl c,.id d (Cv.rfl' _) (Cv.rfl' _)⟩
 | @move G p e a E T B C F T' D k A w j x r J H N h8 g m y=>
  intro D q u;obtain⟨E',c,d⟩:=g u;obtain⟨U,l,n⟩:=m u;obtain⟨o,m1,v⟩:=y u;obtain⟨X,Y,Z,M,P,n3,n4⟩:=(d.trans (j.sub q).cv).to_id;obtain⟨I,D',o1,o2,Q⟩:=(n.trans (r.sub q).cv).to_pi;exact⟨_,.move c M l o1 ((o2.trans (J.sub q)).trans P.symm) (Q.trans (H.sub (ups q)).cv).to_sort m1 ((v.trans (h8.sub q)).trans (.app (Cv.rfl' _) n3.symm)),.app (Cv.rfl' _) n4⟩
 | @pair G T a b S i C D A B w j x r J H N g m y=>
  intro X q u;obtain⟨S',c,d⟩:=g u;obtain⟨o,l,n⟩:=m u;obtain⟨K,m1,v⟩:=y u;exact⟨_,.pair c (d.trans (j.sub q).cv).to_sort (x.sub q) l (n.trans (J.sub q)) m1 (v.trans (by have:=N.sub q;rwa [Tk] at this)),Cv.rfl' _⟩
 |fst w j g=>
  intro D s hs;obtain⟨o,c,d⟩:=g hs;obtain⟨I,V,m1,v,L⟩:=(d.trans (j.sub s).cv).to_sg;exact⟨_,.fst c m1,v⟩
 |snd w j g=>
  intro D s hs;obtain⟨o,c,d⟩:=g hs;obtain⟨I,V,m1,v,L⟩:=(d.trans (j.sub s).cv).to_sg;exact⟨_,.snd c m1,by rw[Tk];exact L.inst (Cv.rfl' _)⟩
