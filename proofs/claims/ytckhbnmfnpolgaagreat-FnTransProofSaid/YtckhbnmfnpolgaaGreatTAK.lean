/- Lemmas towards the law. -/
import Derived.Test.YtckhbnmfnpolgaaGreatTAJ
import Derived.Deep.RegionHeldLaw
import Derived.Lib.AtoiAll
import Derived.Lib.Strings
open Int renaming le_refl->kR,add_zero->eR
open List renaming getD_eq_getElem?_getD->dW,length_take->dQ,length_cons->bX
open Nat renaming zero_add->fV,le_refl->aP
open Bool renaming and_eq_true->aX,false_eq_true->kT
open Go renaming World->aN,Value->aU
open Go.Proofs.Tryz
set_option linter.all false
set_option maxHeartbeats 2000000
set_option maxRecDepth 100000
namespace Go.Proofs.YtckhbnmfnpolgaaGreat
open Go.RowKit
theorem me(y:Int)(k n:Int)(a:List Tr)(c:Int):shfT y (.mk k n a) c= .mk k (if k=1/\c<=n then n+y else n) (i9 y k a 0 c):=by
 conv=> lhs;unfold shfT
theorem fF(u:Tr)(k n:Int)(a:List Tr)(x d:Int):X0 u (.mk k n a) x d=if k=1/\n=x then shfT d u 0 else .mk k (if k=1/\x < n then n - 1 else n) (R9 u k a 0 x d):=by
 conv=> lhs;unfold X0
theorem Um(u:Tr){k n:Int}(a:List Tr){x d:Int}(h:k=1/\n=x):X0 u (.mk k n a) x d=shfT d u 0:=by rw[fF,if_pos h]
theorem Vd(u:Tr){k n:Int}(a:List Tr){x d:Int}(h: ¬(k=1/\n=x)):X0 u (.mk k n a) x d= .mk k (if k=1/\x < n then n - 1 else n) (R9 u k a 0 x d):=by rw[fF,if_neg h]
mutual
theorem nF(a b:Int)(f:0<=b): ∀(t:Tr) (c d:Int),c<=d->d<=c+b->shfT a (shfT b t c) d=shfT (b+a) t c
 | .mk k n j,c,d,g,i=> by
  rw[me,me,me,wD a b f k j 0 c d g i]
  congr 1
  by_cases hk:k=1
  · subst hk
    by_cases e:c<=n
    · rw[if_pos (show(1:Int)=1/\c<=n from⟨rfl,e⟩),if_pos (show(1:Int)=1/\c<=n from⟨rfl,e⟩),if_pos ⟨rfl,by omega⟩];omega
    · rw[if_neg (show¬((1:Int)=1/\c<=n) from fun h=> e h.2),if_neg (show¬((1:Int)=1/\c<=n) from fun h=> e h.2),if_neg (fun h=> by omega)]
  · rw[if_neg (fun h=> hk h.1),if_neg (fun h=> hk h.1),if_neg (fun h=> hk h.1)]
theorem wD(a b:Int)(e:0<=b): ∀(k:Int) (ts:List Tr) (i:Nat) (c d:Int),c<=d->d<=c+b->i9 a k (i9 b k ts i c) i d=i9 (b+a) k ts i c
 |_, [],_,_,_,_,_=> rfl
 |k,t::ts,i,c,d,f,g=> by
  simp only[i9];rw[nF a b e t _ _ (by omega) (by omega),wD a b e k ts (i+1) c d f g]
end
mutual
theorem kF(a b:Int)(g:0<=a)(i:0<=b): ∀(t:Tr) (d c:Int),d<=c->shfT a (shfT b t d) (c+b)=shfT b (shfT a t c) d
 | .mk k n l,d,c,j=> by
  rw[me,me,me,me,kE a b g i k l 0 d c j]
  congr 1
  by_cases hk:k=1
  · subst hk
    by_cases e:d<=n
    · rw[if_pos (show(1:Int)=1/\d<=n from⟨rfl,e⟩)]
      by_cases f:c<=n
      · rw[if_pos ⟨rfl,by omega⟩,if_pos (show(1:Int)=1/\c<=n from⟨rfl,f⟩),if_pos ⟨rfl,by omega⟩];omega
      · rw[if_neg (fun h=> by omega),if_neg (show¬((1:Int)=1/\c<=n) from fun h=> f h.2),if_pos ⟨rfl,e⟩]
    · rw[if_neg (show¬((1:Int)=1/\d<=n) from fun h=> e h.2),if_neg (fun h=> by omega),if_neg (show¬((1:Int)=1/\c<=n) from fun h=> by omega),if_neg (fun h=> by omega)]
  · rw[if_neg (fun h=> hk h.1),if_neg (fun h=> hk h.1),if_neg (fun h=> hk h.1),if_neg (fun h=> hk h.1)]
theorem kE(a b:Int)(e:0<=a)(f:0<=b): ∀(k:Int) (ts:List Tr) (i:Nat) (d c:Int),d<=c->i9 a k (i9 b k ts i d) i (c+b)=i9 b k (i9 a k ts i c) i d
 |_, [],_,_,_,_=> rfl
 |k,t::ts,i,d,c,g=> by
  simp only[i9];rw[show c+b+T4 k i=c+T4 k i+b by omega,kF a b e f t _ _ (by omega),kE a b e f k ts (i+1) d c g]
end
mutual
theorem VC(u:Tr)(y:Int)(j:0<=y): ∀(t:Tr) (x d c:Int),0<=c->c<=x->c<=d->shfT y (X0 u t x d) c=X0 u (shfT y t c) (x+y) (d+y)
 | .mk k n e,x,d,c,g,i,l=> by
  by_cases hv:k=1/\n=x
  · obtain⟨rfl,rfl⟩:=hv
    rw[Um u e ⟨rfl,rfl⟩,me,if_pos (show(1:Int)=1/\c<=n from⟨rfl,i⟩),Um u _ ⟨rfl,rfl⟩];exact nF y d (by omega) u 0 c g (by omega)
  · rw[Vd u e hv,me,me]
    have b: ¬(k=1/\(if k=1/\c<=n then n+y else n)=x+y):=by
     rintro⟨rfl,h⟩;by_cases a:c<=n
     · rw[if_pos ⟨rfl,a⟩] at h;exact hv ⟨rfl,by omega⟩
     · rw[if_neg (fun h=> a h.2)] at h;omega
    rw[Vd u _ b,WK u y j k e 0 x d c g i l]
    congr 1
    by_cases hk:k=1
    · subst hk
      simp only[true_and];have hn:n≠x:=fun h=> hv ⟨rfl,h⟩
      by_cases a:x < n
      · rw[if_pos a,if_pos (show c<=n - 1 by omega),if_pos (show c<=n by omega),if_pos (by omega)];omega
      · rw[if_neg a]
        by_cases f:c<=n
        · rw[if_pos f,if_neg (by omega)]
        · rw[if_neg f,if_neg (by omega)]
    · rw[if_neg (fun h=> hk h.1),if_neg (fun h=> hk h.1),if_neg (fun h=> hk h.1),if_neg (fun h=> hk h.1)]
theorem WK(u:Tr)(y:Int)(a:0<=y): ∀(k:Int) (ts:List Tr) (i:Nat) (x d c:Int),0<=c->c<=x->c<=d->i9 y k (R9 u k ts i x d) i c=R9 u k (i9 y k ts i c) i (x+y) (d+y)
 |_, [],_,_,_,_,_,_,_=> rfl
 |k,t::ts,i,x,d,c,e,f,b=> by
  have:=Rq k i;simp only[R9,i9];rw[VC u y a t _ _ _ (by omega) (by omega) (by omega),WK u y a k ts (i+1) x d c e f b,show x+y+T4 k i=x+T4 k i+y by omega,show d+y+T4 k i=d+T4 k i+y by omega]
end
mutual
theorem yC(u:Tr)(y c:Int)(g:0<=y)(hc:0<=c): ∀(t:Tr) (x d:Int),0<=d->x<=c+d->shfT y (X0 u t x d) (c+d)=X0 (shfT y u c) (shfT y t (c+d+1)) x d
 | .mk k n e,x,d,i,j=> by
  by_cases hv:k=1/\n=x
  · obtain⟨rfl,rfl⟩:=hv
    rw[Um u e ⟨rfl,rfl⟩,me,if_neg (show¬((1:Int)=1/\c+d+1<=n) from fun h=> by omega),Um _ _ ⟨rfl,rfl⟩];exact kF y d g i u 0 c hc
  · rw[Vd u e hv,me,me]
    have b: ¬(k=1/\(if k=1/\c+d+1<=n then n+y else n)=x):=by
     rintro⟨rfl,h⟩;by_cases a:c+d+1<=n
     · rw[if_pos ⟨rfl,a⟩] at h;omega
     · rw[if_neg (fun h=> a h.2)] at h;exact hv ⟨rfl,h⟩
    rw[Vd _ _ b,jL u y c g hc k e 0 x d i j]
    congr 1
    by_cases hk:k=1
    · subst hk
      simp only[true_and];have hn:n≠x:=fun h=> hv ⟨rfl,h⟩
      by_cases a:x < n
      · rw[if_pos a]
        by_cases f:c+d<=n - 1
        · rw[if_pos f,if_pos (show c+d+1<=n by omega),if_pos (by omega)];omega
        · rw[if_neg f,if_neg (show¬c+d+1<=n by omega),if_pos a]
      · rw[if_neg a,if_neg (show¬c+d<=n by omega),if_neg (show¬c+d+1<=n by omega),if_neg a]
    · rw[if_neg (fun h=> hk h.1),if_neg (fun h=> hk h.1),if_neg (fun h=> hk h.1),if_neg (fun h=> hk h.1)]
theorem jL(u:Tr)(y c:Int)(a:0<=y)(hc:0<=c): ∀(k:Int) (ts:List Tr) (i:Nat) (x d:Int),0<=d->x<=c+d->i9 y k (R9 u k ts i x d) i (c+d)=R9 (shfT y u c) k (i9 y k ts i (c+d+1)) i x d
 |_, [],_,_,_,_,_=> rfl
 |k,t::ts,i,x,d,b,e=> by
  have:=Rq k i;simp only[R9,i9];rw[show c+d+T4 k i=c+(d+T4 k i) by omega,yC u y c a hc t _ _ (by omega) (by omega),jL u y c a hc k ts (i+1) x d b e,show c+d+1+T4 k i=c+(d+T4 k i)+1 by omega]
end
mutual
theorem zC(u:Tr)(e:Int)(c:0<=e): ∀(t:Tr) (x d b:Int),b<=x->x<=b+e->X0 u (shfT (e+1) t b) x d=shfT e t b
 | .mk k n i,x,d,b,f,g=> by
  rw[me,me];by_cases hk:k=1
  · subst hk
    by_cases a:b<=n
    · rw[if_pos (show(1:Int)=1/\b<=n from⟨rfl,a⟩),if_pos (show(1:Int)=1/\b<=n from⟨rfl,a⟩),Vd _ _ (fun h=> by omega),Zq u e c 1 i 0 x d b f g,if_pos ⟨rfl,by omega⟩]
      congr 1
      omega
    · rw[if_neg (show¬((1:Int)=1/\b<=n) from fun h=> a h.2),if_neg (show¬((1:Int)=1/\b<=n) from fun h=> a h.2),Vd _ _ (fun h=> by omega),Zq u e c 1 i 0 x d b f g,if_neg (fun h=> by omega)]
  · rw[if_neg (fun h=> hk h.1),if_neg (fun h=> hk h.1),Vd _ _ (fun h=> hk h.1),Zq u e c k i 0 x d b f g,if_neg (fun h=> hk h.1)]
theorem Zq(u:Tr)(e:Int)(a:0<=e): ∀(k:Int) (ts:List Tr) (i:Nat) (x d b:Int),b<=x->x<=b+e->R9 u k (i9 (e+1) k ts i b) i x d=i9 e k ts i b
 |_, [],_,_,_,_,_,_=> rfl
 |k,t::ts,i,x,d,b,f,c=> by
  simp only[i9,R9];rw[zC u e a t _ _ _ (by omega) (by omega),Zq u e a k ts (i+1) x d b f c]
end
mutual
theorem MD(u a:Tr)(x d:Int)(hx:0<=x)(hd:0<=d): ∀(t:Tr) (b:Int),0<=b->X0 u (X0 a t b b) (x+b) (d+b)=X0 (X0 u a x d) (X0 u t (x+1+b) (d+1+b)) b b
 | .mk k n c,b,j=> by
  by_cases hk:k=1
  · subst hk
    by_cases g:n=b
    · subst g
      have f:X0 a (.mk 1 n c) n n=shfT n a 0:=Um _ _ ⟨rfl,rfl⟩;have e:X0 u (.mk 1 n c) (x+1+n) (d+1+n)= .mk 1 n (R9 u 1 c 0 (x+1+n) (d+1+n)):=by
       rw[Vd _ _ (fun h=> by omega),if_neg (fun h=> by omega)]
      rw[f,e,Um _ _ ⟨rfl,rfl⟩,VC u n j a x d 0 (kR _) hx hd]
    · by_cases o:n=x+1+b
      · have f:X0 a (.mk 1 n c) b b= .mk 1 (n - 1) (R9 a 1 c 0 b b):=by
         rw[Vd _ _ (fun h=> g h.2),if_pos ⟨rfl,by omega⟩]
        have e:X0 u (.mk 1 n c) (x+1+b) (d+1+b)=shfT (d+1+b) u 0:=Um _ _ ⟨rfl,o⟩;rw[f,e,Um _ _ ⟨rfl,by omega⟩,show d+1+b=d+b+1 by omega,zC _ (d+b) (by omega) u b b 0 j (by omega)]
      · have f:X0 a (.mk 1 n c) b b= .mk 1 (if b < n then n - 1 else n) (R9 a 1 c 0 b b):=by
         rw[Vd _ _ (fun h=> g h.2)];simp
        have e:X0 u (.mk 1 n c) (x+1+b) (d+1+b)= .mk 1 (if x+1+b < n then n - 1 else n) (R9 u 1 c 0 (x+1+b) (d+1+b)):=by
         rw[Vd _ _ (fun h=> o h.2)];simp
        rw[f,e];have hs:=wz u a x d hx hd 1 c 0 b j;by_cases i:b < n
        · rw[if_pos i]
          by_cases m:x+1+b < n
          · rw[if_pos m,Vd _ _ (fun h=> by omega),Vd _ _ (fun h=> by omega),hs,if_pos ⟨rfl,by omega⟩,if_pos ⟨rfl,by omega⟩]
          · rw[if_neg m,Vd _ _ (fun h=> by omega),Vd _ _ (fun h=> g h.2),hs,if_neg (fun h=> by omega),if_pos ⟨rfl,i⟩]
        · rw[if_neg i,if_neg (show¬x+1+b < n by omega),Vd _ _ (fun h=> by omega),Vd _ _ (fun h=> g h.2),hs,if_neg (fun h=> by omega),if_neg (fun h=> i h.2)]
  · have q: ∀(v:Tr) (l:List Tr) (y z:Int),X0 v (.mk k n l) y z= .mk k n (R9 v k l 0 y z):=fun v l y z=> by
     rw[Vd _ _ (fun h=> hk h.1),if_neg (fun h=> hk h.1)]
    rw[q,q,q,q,wz u a x d hx hd k c 0 b j]
theorem wz(u a:Tr)(x d:Int)(hx:0<=x)(hd:0<=d): ∀(k:Int) (ts:List Tr) (i:Nat) (b:Int),0<=b->R9 u k (R9 a k ts i b b) i (x+b) (d+b)=R9 (X0 u a x d) k (R9 u k ts i (x+1+b) (d+1+b)) i b b
 |_, [],_,_,_=> rfl
 |k,t::ts,i,b,c=> by
  have:=Rq k i;simp only[R9];rw[show x+b+T4 k i=x+(b+T4 k i) by omega,show d+b+T4 k i=d+(b+T4 k i) by omega,MD u a x d hx hd t _ (by omega),wz u a x d hx hd k ts (i+1) b c,show x+1+b+T4 k i=x+1+(b+T4 k i) by omega,show d+1+b+T4 k i=d+1+(b+T4 k i) by omega]
end
theorem JH(u a t:Tr){x d:Int}(hx:0<=x)(hd:0<=d):X0 u (X0 a t 0 0) x d=X0 (X0 u a x d) (X0 u t (x+1) (d+1)) 0 0:=by
 have:=MD u a x d hx hd t 0 (kR _)
 simpa using this
theorem XF(a t:Tr){y c:Int}(b:0<=y)(hc:0<=c):shfT y (X0 a t 0 0) c=X0 (shfT y a c) (shfT y t (c+1)) 0 0:=by
 have:=yC a y c b hc t 0 0 (kR _) (by omega)
 simpa using this
def kd(a:List Tr)(i:Nat):Tr:=a.getD i D2
def rdx(k:Int)(a:List Tr):Int:=
 if k=5 then(if(kd a 0).kind=4 then 1 else 0)
 else if k=9 then(if(kd a 3).kind=7 then 2 else if(kd a 3).kind=8 then 3 else 0)
 else if k=12 then(if(kd a 1).kind=11 then 4 else 0)
 else if k=15 then(if(kd a 0).kind=14 then 5 else 0)
 else if k=16 then(if(kd a 0).kind=14 then 6 else 0)
 else 0
def ctr(k:Int)(a:List Tr):Tr:=
 if k=5 then X0 (kd a 1) (kd (kd a 0).kids 1) 0 0
 else if k=9 then(if(kd a 3).kind=7 then kd a 1 else .mk 5 0 [.mk 5 0 [kd a 2,kd (kd a 3).kids 0],.mk 9 0 [kd a 0,kd a 1,kd a 2,kd (kd a 3).kids 0]])
 else if k=12 then kd a 2
 else if k=15 then kd (kd a 0).kids 1
 else kd (kd a 0).kids 2
def J4:Tr->Int
 | .mk k _ a=> rdx k a
def ctrT:Tr->Tr
 | .mk k _ a=> ctr k a
theorem Pn{k:Int}{e:List Tr}(h:k≠5)(d:k≠9)(c:k≠12)(b:k≠15)(a:k≠16):rdx k e=0:=by
 unfold rdx;rw[if_neg h,if_neg d,if_neg c,if_neg b,if_neg a]
mutual
inductive Par:Tr->Tr->Prop where
 |node {k n:Int} {ks ks':List Tr}:K6 ks ks'->Par (.mk k n ks) (.mk k n ks')
 |red {k n:Int} {ks ks':List Tr}:rdx k ks≠0->K6 ks ks'->Par (.mk k n ks) (ctr k ks')
inductive K6:List Tr->List Tr->Prop where
 |nil:K6 [] []
 |cons {t t':Tr} {ts ep:List Tr}:Par t t'->K6 ts ep->K6 (t::ts) (t'::ep)
end
mutual
theorem Par.refl: ∀t:Tr,Par t t
 | .mk k n a=> .node (K6.refl a)
theorem K6.refl: ∀ts:List Tr,K6 ts ts
 | []=> .nil
 |t::ts=> .cons (Par.refl t) (K6.refl ts)
end
theorem K6.kd: ∀{a b:List Tr},K6 a b-> ∀i,Par (kd a i) (kd b i)
 |_,_,.nil,i=> by simpa[Go.Proofs.YtckhbnmfnpolgaaGreat.kd] using Par.refl D2
 |_,_,.cons h _,0=> by simpa[Go.Proofs.YtckhbnmfnpolgaaGreat.kd] using h
 |_,_,.cons _ h,i+1=> by simpa[Go.Proofs.YtckhbnmfnpolgaaGreat.kd] using h.kd i
theorem Par.keep{t a:Tr}(h:Par t a)(f:t.kind≠5)(e:t.kind≠9)(d:t.kind≠12)(c:t.kind≠15)(b:t.kind≠16):a.kind=t.kind/\a.num=t.num/\K6 t.kids a.kids:=by
 cases h with
 |node h=> exact⟨rfl,rfl,h⟩
 |red g h=> exact absurd (Pn f e d c b) g
theorem K6.rdx{k:Int}{a b:List Tr}(h:K6 a b)(hr:rdx k a≠0):Go.Proofs.YtckhbnmfnpolgaaGreat.rdx k b=Go.Proofs.YtckhbnmfnpolgaaGreat.rdx k a:=by
 have key: ∀i c,c=4\/c=7\/c=8\/c=11\/c=14->(Go.Proofs.YtckhbnmfnpolgaaGreat.kd a i).kind=c->(Go.Proofs.YtckhbnmfnpolgaaGreat.kd b i).kind=c:=fun i c hc n=> by
  have d:=(h.kd i).keep (by omega) (by omega) (by omega) (by omega) (by omega);rw[d.1,n]
 unfold Go.Proofs.YtckhbnmfnpolgaaGreat.rdx at hr⊢;by_cases j:k=5
 · rw[if_pos j,if_pos j]
   rw[if_pos j] at hr;by_cases d:(Go.Proofs.YtckhbnmfnpolgaaGreat.kd a 0).kind=4
   · rw[if_pos d,if_pos (key 0 4 (by omega) d)]
   · rw[if_neg d] at hr;exact absurd rfl hr
 rw[if_neg j,if_neg j];rw[if_neg j] at hr;by_cases g:k=9
 · rw[if_pos g,if_pos g]
   rw[if_pos g] at hr;by_cases d:(Go.Proofs.YtckhbnmfnpolgaaGreat.kd a 3).kind=7
   · rw[if_pos d,if_pos (key 3 7 (by omega) d)]
   · rw[if_neg d] at hr⊢
     by_cases m:(Go.Proofs.YtckhbnmfnpolgaaGreat.kd a 3).kind=8
     · have:=key 3 8 (by omega) m
       rw[if_pos m,if_neg (by omega),if_pos this]
     · rw[if_neg m] at hr;exact absurd rfl hr
 rw[if_neg g,if_neg g];rw[if_neg g] at hr;by_cases f:k=12
 · rw[if_pos f,if_pos f]
   rw[if_pos f] at hr;by_cases d:(Go.Proofs.YtckhbnmfnpolgaaGreat.kd a 1).kind=11
   · rw[if_pos d,if_pos (key 1 11 (by omega) d)]
   · rw[if_neg d] at hr;exact absurd rfl hr
 rw[if_neg f,if_neg f];rw[if_neg f] at hr;by_cases e:k=15
 · rw[if_pos e,if_pos e]
   rw[if_pos e] at hr;by_cases d:(Go.Proofs.YtckhbnmfnpolgaaGreat.kd a 0).kind=14
   · rw[if_pos d,if_pos (key 0 14 (by omega) d)]
   · rw[if_neg d] at hr;exact absurd rfl hr
 rw[if_neg e,if_neg e];rw[if_neg e] at hr;by_cases l:k=16
 · rw[if_pos l,if_pos l]
   rw[if_pos l] at hr;by_cases d:(Go.Proofs.YtckhbnmfnpolgaaGreat.kd a 0).kind=14
   · rw[if_pos d,if_pos (key 0 14 (by omega) d)]
   · rw[if_neg d] at hr;exact absurd rfl hr
 · rw[if_neg l] at hr;exact absurd rfl hr
theorem YE(y:Int)(k:Int): ∀(ts:List Tr) (i j:Nat) (c:Int),j < ts.length->kd (i9 y k ts i c) j=shfT y (kd ts j) (c+T4 k (i+j))
 |t::ts,i,0,c,h=> by simp[i9,kd]
 |t::ts,i,j+1,c,h=> by
  have:=YE y k ts (i+1) j c (by simpa using h);simp only[i9,kd,List.getD_cons_succ] at this⊢;rw[this,show i+1+j=i+(j+1) by omega]
theorem OD(u:Tr)(k:Int): ∀(ts:List Tr) (i j:Nat) (x d:Int),j < ts.length->kd (R9 u k ts i x d) j=X0 u (kd ts j) (x+T4 k (i+j)) (d+T4 k (i+j))
 |t::ts,i,0,x,d,h=> by simp[R9,kd]
 |t::ts,i,j+1,x,d,h=> by
  have:=OD u k ts (i+1) j x d (by simpa using h);simp only[R9,kd,List.getD_cons_succ] at this⊢;rw[this,show i+1+j=i+(j+1) by omega]
theorem gk{ts:List Tr}{j:Nat}(h:ts.length<=j):kd ts j=D2:=by
 unfold kd;rw[dW,List.getElem?_eq_none h]
 rfl
theorem mI(y c:Int):shfT y D2 c=D2:=by
 unfold D2;rw[me,if_neg (fun h=> by omega)]
 rfl
theorem QG(u:Tr)(x d:Int):X0 u D2 x d=D2:=by
 unfold D2;rw[Vd _ _ (fun h=> by omega),if_neg (fun h=> by omega)]
 rfl
theorem Wg(y k:Int)(ts:List Tr)(j:Nat)(c:Int):kd (i9 y k ts 0 c) j=shfT y (kd ts j) (c+T4 k j):=by
 rcases Nat.lt_or_ge j ts.length with h|h
 · rw[YE y k ts 0 j c h,fV]
 · rw[gk h,gk (by rw[EA];exact h),mI]
theorem Uf(u:Tr)(k:Int)(ts:List Tr)(j:Nat)(x d:Int):kd (R9 u k ts 0 x d) j=X0 u (kd ts j) (x+T4 k j) (d+T4 k j):=by
 rcases Nat.lt_or_ge j ts.length with h|h
 · rw[OD u k ts 0 j x d h,fV]
 · rw[gk h,gk (by rw[NF];exact h),QG]
theorem md{k:Int}(a:k≠3)(b:k≠4)(c:k≠13)(j:Nat):T4 k j=0:=by
 unfold T4;rw[if_neg (by omega)]
theorem vE(y:Int)(t:Tr)(c:Int):(shfT y t c).kind=t.kind/\(shfT y t c).kids=i9 y t.kind t.kids 0 c:=by
 obtain⟨k,n,a⟩:=t;rw[me];exact⟨rfl,rfl⟩
theorem iD(u:Tr)(t:Tr)(x d:Int)(h:t.kind≠1):(X0 u t x d).kind=t.kind/\(X0 u t x d).kids=R9 u t.kind t.kids 0 x d:=by
 obtain⟨k,n,a⟩:=t;have hk:k≠1:=h;rw[Vd (k:=k) (n:=n) u a (fun e=> hk e.1)];exact⟨rfl,rfl⟩
theorem Pm{k:Int}{b:List Tr}(h:rdx k b≠0):(k=5/\(kd b 0).kind=4)\/(k=9/\(kd b 3).kind=7)\/(k=9/\(kd b 3).kind=8)\/(k=12/\(kd b 1).kind=11)\/(k=15/\(kd b 0).kind=14)\/(k=16/\(kd b 0).kind=14):=by
 unfold rdx at h;by_cases g:k=5
 · rw[if_pos g] at h
   by_cases a:(kd b 0).kind=4
   · exact .inl ⟨g,a⟩
   · rw[if_neg a] at h;exact absurd rfl h
 rw[if_neg g] at h;by_cases c:k=9
 · rw[if_pos c] at h
   by_cases a:(kd b 3).kind=7
   · exact .inr (.inl ⟨c,a⟩)
   · rw[if_neg a] at h
     by_cases i:(kd b 3).kind=8
     · exact .inr (.inr (.inl ⟨c,i⟩))
     · rw[if_neg i] at h;exact absurd rfl h
 rw[if_neg c] at h;by_cases f:k=12
 · rw[if_pos f] at h
   by_cases a:(kd b 1).kind=11
   · exact .inr (.inr (.inr (.inl ⟨f,a⟩)))
   · rw[if_neg a] at h;exact absurd rfl h
 rw[if_neg f] at h;by_cases e:k=15
 · rw[if_pos e] at h
   by_cases a:(kd b 0).kind=14
   · exact .inr (.inr (.inr (.inr (.inl ⟨e,a⟩))))
   · rw[if_neg a] at h;exact absurd rfl h
 rw[if_neg e] at h;by_cases d:k=16
 · rw[if_pos d] at h
   by_cases a:(kd b 0).kind=14
   · exact .inr (.inr (.inr (.inr (.inr ⟨d,a⟩))))
   · rw[if_neg a] at h;exact absurd rfl h
 · rw[if_neg d] at h;exact absurd rfl h
theorem tl{k:Int}{a:List Tr}(h:(k=5/\(kd a 0).kind=4)\/(k=9/\(kd a 3).kind=7)\/(k=9/\(kd a 3).kind=8)\/(k=12/\(kd a 1).kind=11)\/(k=15/\(kd a 0).kind=14)\/(k=16/\(kd a 0).kind=14)):rdx k a≠0:=by
 rcases h with⟨rfl,h⟩ |⟨rfl,h⟩ |⟨rfl,h⟩ |⟨rfl,h⟩ |⟨rfl,h⟩ |⟨rfl,h⟩ <;>(unfold rdx;simp[h])
theorem dt{a:List Tr}:ctr 5 a=X0 (kd a 1) (kd (kd a 0).kids 1) 0 0:=rfl
theorem ru{a:List Tr}(h:(kd a 3).kind=7):ctr 9 a=kd a 1:=by unfold ctr;simp[h]
theorem Yt{a:List Tr}(h:(kd a 3).kind=8):ctr 9 a= .mk 5 0 [.mk 5 0 [kd a 2,kd (kd a 3).kids 0],.mk 9 0 [kd a 0,kd a 1,kd a 2,kd (kd a 3).kids 0]]:=by unfold ctr;simp[h]
theorem eA{a:List Tr}:ctr 12 a=kd a 2:=rfl
theorem Pt{a:List Tr}:ctr 15 a=kd (kd a 0).kids 1:=rfl
theorem Wt{a:List Tr}:ctr 16 a=kd (kd a 0).kids 2:=rfl
theorem jD:T4 4 1=1:=rfl
theorem my(y k n:Int)(a:List Tr)(c:Int)(h:k≠1):shfT y (.mk k n a) c= .mk k n (i9 y k a 0 c):=by rw[me,if_neg (fun e=> h e.1)]
theorem Hx(u:Tr)(k n:Int)(a:List Tr)(x d:Int)(h:k≠1):X0 u (.mk k n a) x d= .mk k n (R9 u k a 0 x d):=by rw[Vd _ _ (fun e=> h e.1),if_neg (fun e=> h e.1)]
theorem fD{k:Int}{a:List Tr}(h:rdx k a≠0){y c:Int}(e:0<=y)(hc:0<=c):rdx k (i9 y k a 0 c)≠0/\shfT y (ctr k a) c=ctr k (i9 y k a 0 c):=by
 have b:=Pm h;have d: ∀j,(kd (i9 y k a 0 c) j).kind=(kd a j).kind:=fun j=> by rw[Wg];exact(vE y _ _).1
 refine⟨tl (by simpa only[d] using b), ?_⟩;rcases b with⟨rfl,g⟩ |⟨rfl,g⟩ |⟨rfl,g⟩ |⟨rfl,g⟩ |⟨rfl,g⟩ |⟨rfl,g⟩
 · rw[dt,dt,Wg,Wg,(vE y _ _).2,g,Wg,jD,md (by decide) (by decide) (by decide),md (by decide) (by decide) (by decide),eR,XF _ _ e hc]
 · rw[ru g,ru (by rw[d,g]),Wg,md (by decide) (by decide) (by decide),eR]
 · rw[Yt g,Yt (by rw[d,g])]
   rw[Wg,Wg,Wg,Wg,(vE y _ _).2,g,Wg];simp only[md (show(9:Int)≠3 by decide) (by decide) (by decide),md (show(8:Int)≠3 by decide) (by decide) (by decide),eR];rw[my _ 5 _ _ _ (by decide)];simp only[i9,md (show(5:Int)≠3 by decide) (by decide) (by decide),eR];rw[my _ 5 _ _ _ (by decide),my _ 9 _ _ _ (by decide)];simp only[i9,md (show(5:Int)≠3 by decide) (by decide) (by decide),md (show(9:Int)≠3 by decide) (by decide) (by decide),eR]
 · rw[eA,eA,Wg,md (by decide) (by decide) (by decide),eR]
 · rw[Pt,Pt,Wg,(vE y _ _).2,g,Wg,md (by decide) (by decide) (by decide),md (by decide) (by decide) (by decide),eR,eR]
 · rw[Wt,Wt,Wg,(vE y _ _).2,g,Wg,md (by decide) (by decide) (by decide),md (by decide) (by decide) (by decide),eR,eR]
theorem zE{k:Int}{c:List Tr}(h:rdx k c≠0)(u:Tr){x d:Int}(hx:0<=x)(hd:0<=d):rdx k (R9 u k c 0 x d)≠0/\X0 u (ctr k c) x d=ctr k (R9 u k c 0 x d):=by
 have e:=Pm h;have b: ∀j,(kd c j).kind≠1->(kd (R9 u k c 0 x d) j).kind=(kd c j).kind:=fun j f=> by rw[Uf];exact(iD u _ _ _ f).1
 refine⟨tl ?_, ?_⟩
 · rcases e with⟨a,g⟩ |⟨a,g⟩ |⟨a,g⟩ |⟨a,g⟩ |⟨a,g⟩ |⟨a,g⟩
   · exact .inl ⟨a,by rw[b _ (by omega),g]⟩
   · exact .inr (.inl ⟨a,by rw[b _ (by omega),g]⟩)
   · exact .inr (.inr (.inl ⟨a,by rw[b _ (by omega),g]⟩))
   · exact .inr (.inr (.inr (.inl ⟨a,by rw[b _ (by omega),g]⟩)))
   · exact .inr (.inr (.inr (.inr (.inl ⟨a,by rw[b _ (by omega),g]⟩))))
   · exact .inr (.inr (.inr (.inr (.inr ⟨a,by rw[b _ (by omega),g]⟩))))
 rcases e with⟨rfl,g⟩ |⟨rfl,g⟩ |⟨rfl,g⟩ |⟨rfl,g⟩ |⟨rfl,g⟩ |⟨rfl,g⟩
 · rw[dt,dt,Uf,Uf,(iD u _ _ _ (by omega)).2,g,Uf,jD,md (by decide) (by decide) (by decide),md (by decide) (by decide) (by decide),eR,eR,JH _ _ _ hx hd]
 · rw[ru g,ru (by rw[b _ (by omega),g]),Uf,md (by decide) (by decide) (by decide),eR,eR]
 · rw[Yt g,Yt (by rw[b _ (by omega),g])]
   rw[Uf,Uf,Uf,Uf,(iD u _ _ _ (by omega)).2,g,Uf];simp only[md (show(9:Int)≠3 by decide) (by decide) (by decide),md (show(8:Int)≠3 by decide) (by decide) (by decide),eR];rw[Hx _ 5 _ _ _ _ (by decide)];simp only[R9,md (show(5:Int)≠3 by decide) (by decide) (by decide),eR];rw[Hx _ 5 _ _ _ _ (by decide),Hx _ 9 _ _ _ _ (by decide)];simp only[R9,md (show(5:Int)≠3 by decide) (by decide) (by decide),md (show(9:Int)≠3 by decide) (by decide) (by decide),eR]
 · rw[eA,eA,Uf,md (by decide) (by decide) (by decide),eR,eR]
 · rw[Pt,Pt,Uf,(iD u _ _ _ (by omega)).2,g,Uf,md (by decide) (by decide) (by decide),md (by decide) (by decide) (by decide)]
   simp only[eR]
 · rw[Wt,Wt,Uf,(iD u _ _ _ (by omega)).2,g,Uf,md (by decide) (by decide) (by decide),md (by decide) (by decide) (by decide)]
   simp only[eR]
mutual
theorem Par.shf{y:Int}(a:0<=y): ∀{t b:Tr} (c:Int),0<=c->Par t b->Par (shfT y t c) (shfT y b c)
 |_,_,c,hc,.node h=> by
  rw[me,me];exact .node (K6.shf a _ 0 c hc h)
 |_,_,c,hc,.red (k:=k) (n:=n) (ks:=ks) (ks':=ks') h0 h=> by
  have d:=fD (show rdx k ks'≠0 by rw[h.rdx h0];exact h0) a hc;rw[me,d.2];exact .red (fD h0 a hc).1 (K6.shf a _ 0 c hc h)
theorem K6.shf{y:Int}(a:0<=y): ∀{ts b:List Tr} (k:Int) (i:Nat) (c:Int),0<=c->K6 ts b->K6 (i9 y k ts i c) (i9 y k b i c)
 |_,_,k,i,c,hc,.nil=> .nil
 |_,_,k,i,c,hc,.cons h hs=> by
  have:=Rq k i;simp only[i9];exact .cons (Par.shf a _ (by omega) h) (K6.shf a k (i+1) c hc hs)
end
mutual
theorem Par.sbs{u a:Tr}(b:Par u a): ∀{t c:Tr} (x d:Int),0<=x->0<=d->Par t c->Par (X0 u t x d) (X0 a c x d)
 |_,_,x,d,hx,hd,.node (k:=k) (n:=n) h=> by
  by_cases hv:k=1/\n=x
  · rw[Um _ _ hv,Um _ _ hv]
    exact b.shf hd 0 (kR _)
  · rw[Vd _ _ hv,Vd _ _ hv]
    exact .node (K6.sbs b _ 0 x d hx hd h)
 |_,_,x,d,hx,hd,.red (k:=k) (n:=n) (ks:=ks) (ks':=ks') h0 h=> by
  have f:=zE (show rdx k ks'≠0 by rw[h.rdx h0];exact h0) a hx hd;have hv: ¬(k=1/\n=x):=fun e=> h0 (Pn (by omega) (by omega) (by omega) (by omega) (by omega))
  rw[Vd _ _ hv,f.2];exact .red (zE h0 u hx hd).1 (K6.sbs b _ 0 x d hx hd h)
theorem K6.sbs{u a:Tr}(b:Par u a): ∀{ts c:List Tr} (k:Int) (i:Nat) (x d:Int),0<=x->0<=d->K6 ts c->K6 (R9 u k ts i x d) (R9 a k c i x d)
 |_,_,k,i,x,d,hx,hd,.nil=> .nil
 |_,_,k,i,x,d,hx,hd,.cons h hs=> by
  have:=Rq k i;simp only[R9];exact .cons (Par.sbs b _ _ (by omega) (by omega) h) (K6.sbs b k (i+1) x d hx hd hs)
end
theorem Par.kids_of{t a:Tr}(h:Par t a)(hk:t.kind=4\/t.kind=7\/t.kind=8\/t.kind=11\/t.kind=14):a.kind=t.kind/\K6 t.kids a.kids:=by
 have:=h.keep (by omega) (by omega) (by omega) (by omega) (by omega);exact⟨this.1,this.2.2⟩
theorem K6.ctr{k:Int}{a b:List Tr}(h:K6 a b)(f:Go.Proofs.YtckhbnmfnpolgaaGreat.rdx k a≠0):Par (Go.Proofs.YtckhbnmfnpolgaaGreat.ctr k a) (Go.Proofs.YtckhbnmfnpolgaaGreat.ctr k b):=by
 have d:=Pm f;rcases d with⟨rfl,c⟩ |⟨rfl,c⟩ |⟨rfl,c⟩ |⟨rfl,c⟩ |⟨rfl,c⟩ |⟨rfl,c⟩
 · rw[dt,dt]
   exact(h.kd 1).sbs 0 0 (kR _) (kR _) (((h.kd 0).kids_of (by omega)).2.kd 1)
 · rw[ru c,ru (by rw[((h.kd 3).kids_of (by omega)).1];exact c)]
   exact h.kd 1
 · rw[Yt c,Yt (by rw[((h.kd 3).kids_of (by omega)).1];exact c)]
   have e:=((h.kd 3).kids_of (by omega)).2.kd 0;exact .node (.cons (.node (.cons (h.kd 2) (.cons e .nil))) (.cons (.node (.cons (h.kd 0) (.cons (h.kd 1) (.cons (h.kd 2) (.cons e .nil))))) .nil))
 · exact h.kd 2
 · rw[Pt,Pt]
   exact((h.kd 0).kids_of (by omega)).2.kd 1
 · rw[Wt,Wt]
   exact((h.kd 0).kids_of (by omega)).2.kd 2
mutual
def T8:Tr->Tr
 | .mk k n a=> if rdx k a≠0 then ctr k (wi a) else .mk k n (wi a)
def wi:List Tr->List Tr
 | []=> []
 |t::ts=> T8 t::wi ts
end
theorem Ek(k n:Int)(a:List Tr):T8 (.mk k n a)=if rdx k a≠0 then ctr k (wi a) else .mk k n (wi a):=by
 conv=> lhs;unfold T8
mutual
theorem Par.tri: ∀{t c:Tr},Par t c->Par c (T8 t)
 |_,_,.node (k:=k) (n:=n) (ks:=ks) h=> by
  have b:=h.tri;rw[Ek];by_cases a:rdx k ks≠0
  · rw[if_pos a]
    exact .red (by rw[h.rdx a];exact a) b
  · rw[if_neg a]
    exact .node b
 |_,_,.red (k:=k) (n:=n) (ks:=ks) a h=> by
  have b:=h.tri;rw[Ek,if_pos a];exact b.ctr (by rw[h.rdx a];exact a)
theorem K6.tri: ∀{ts a:List Tr},K6 ts a->K6 a (wi ts)
 |_,_,.nil=> .nil
 |_,_,.cons h hs=> .cons h.tri hs.tri
end
inductive i8:Tr->Tr->Prop where
 |refl (t:Tr):i8 t t
 |step {a b c:Tr}:i8 a b->Par b c->i8 a c
theorem i8.trans{a b c:Tr}(h:i8 a b)(k:i8 b c):i8 a c:=by
 induction k with
 |refl=> exact h
 |step _ p ih=> exact .step ih p
theorem i8.one{a b:Tr}(h:Par a b):i8 a b:= .step (.refl a) h
theorem i8.strip{a b:Tr}(h:i8 a b): ∀{c:Tr},Par a c-> ∃d,Par b d/\i8 c d:=by
 induction h with
 |refl=> exact fun{c} p=>⟨c,p,.refl c⟩
 |step _ p ih=>
  intro c q;obtain⟨d,f,e⟩:=ih q;exact⟨_,p.tri,.step e f.tri⟩
theorem i8.meet{a b:Tr}(h:i8 a b): ∀{c:Tr},i8 a c-> ∃d,i8 b d/\i8 c d:=by
 induction h with
 |refl=> exact fun{c} p=>⟨c,p,.refl c⟩
 |step _ p ih=>
  intro c q;obtain⟨d,j,f⟩:=ih q;obtain⟨e,g,i⟩:=j.strip p;exact⟨e,i,.step f g⟩
mutual
def Om:Tr->Bool
 | .mk k _ a=> decide (rdx k a=0)&& Vg a
def Vg:List Tr->Bool
 | []=> true
 |t::ts=> Om t && Vg ts
end
mutual
theorem Par.normal: ∀{t a:Tr},Par t a->Om t=true->a=t
 |_,_,.node (k:=k) (n:=n) (ks:=ks) h,hn=> by
  simp only[Om,aX] at hn;rw[K6.normal h hn.2]
 |_,_,.red b _,hn=> by
  simp only[Om,aX,decide_eq_true_eq] at hn;exact absurd hn.1 b
theorem K6.normal: ∀{ts a:List Tr},K6 ts a->Vg ts=true->a=ts
 |_,_,.nil,_=> rfl
 |_,_,.cons h hs,hn=> by
  simp only[Vg,aX] at hn;rw[Par.normal h hn.1,K6.normal hs hn.2]
end
theorem i8.normal{a b:Tr}(h:i8 a b)(hn:Om a=true):b=a:=by
 induction h with
 |refl=> rfl
 |step _ p ih=> subst ih;exact p.normal hn
theorem i8.unique{a b c:Tr}(h:i8 a b)(k:i8 a c)(f:Om b=true)(hc:Om c=true):b=c:=by
 obtain⟨d,g,e⟩:=h.meet k;rw[<-g.normal f,<-e.normal hc]
end Go.Proofs.YtckhbnmfnpolgaaGreat
namespace Go.Proofs.YtckhbnmfnpolgaaGreat
open Go.RowKit
attribute [local go_sem ↓] Go.wp_at_zero Go.wp_at_succ
def AA(t:TypeId)(s:Nat):Op:=Op.load t (.tmp s)
attribute [local go_sem] AA
theorem gs:(prog.info? 25).map (fun i=>(i.zero,i.size,i.bytes))=some (some (m0 0 0 none 0 0),3,40):=by kernel_rfl
theorem SB(y:Int): ∀{k:Int} {ts:List Tr} {i j:Nat} {c:Int} (h:j < ts.length),(i9 y k ts i c)[j]'(by rw[EA];exact h)=shfT y ts[j] (c+T4 k (i+j))
 |k,t::ts,i,0,c,h=> by simp[i9]
 |k,t::ts,i,j+1,c,h=> by
  simp only[i9,List.getElem_cons_succ];rw[SB y (j:=j) (by simpa using h),show i+1+j=i+(j+1) by omega]
theorem V8.lt{w:aN}{b o j:Nat}{c:List Tr}(h:V8 w (some ⟨b,o,none⟩) c)(a:j < c.length):b < w.heap.size:=by
 rcases h with h|⟨f,g,e,d,-⟩
 · rw[h] at a;simp at a
 · cases e;exact d
theorem AF{l:List Tr}{j:Nat}{t:Tr}(h:j < l.length)(e:l[j]=t):l.take j++ [t]=l.take (j+1):=by rw[<-e];exact List.take_append_getElem h
def pI(t:Tr):Prop:= ∀(w:aN) (v:aU) (y c d:Int),I0 sigT t d=true->Lies w t v->cnt t<=1000->0<=y->y<=1000000->0<=c->c+cnt t<=1000000->
 Calls prog 104 #[v,.int .i64 y,.int .i64 c] w fun e a=> ∃u,e= .returned u/\W0 w a 25 (shfT y t c) u/\Ext w a
theorem LA: ∀t:Tr,pI t:=Tr.ind fun k n f hk=> by
 intro w v y c d hsh d6 P9 hy0 hy1 hc0 U;obtain⟨-,O8,R7,hsk⟩:=m6 hsh;have Y7:=Tj k;obtain⟨A,cap,rfl,hl,hc,hK⟩:=Lies.mk_iff.1 d6;obtain⟨i0,hi,hz0,hz1,Z⟩:=info_parts gs;have I:=hc;unfold maxLen at I;simp only[cnt] at P9 U;have hlc:=Tg f;obtain⟨Q,d1⟩: ∃Q,(k==1)=Q:=⟨_,rfl⟩;obtain⟨O,d2⟩: ∃O,decide (c<=n)=O:=⟨_,rfl⟩;obtain⟨r,E⟩: ∃r,r=if(Q && O)=true then n+y else n:=⟨_,rfl⟩
 obtain⟨g,P⟩: ∃g,g=i9 y k f 0 c:=⟨_,rfl⟩;have x:shfT y (.mk k n f) c= .mk k r g:=by
  rw[E,P,<-d1,<-d2]
  conv=> lhs;unfold shfT
  simp
 have rp:g.length=f.length:=by rw[P,EA]
 have V4: ∀j (h:j < f.length),g[j]'(by omega)=shfT y f[j] (c+T4 k j):=fun j h=> by
  subst P;rw[SB y h,fV]
 rw[x];have Y3:=hdq V4;clear x P V4;cases Q with
 |true=>
  obtain rfl:k=1:=by simpa using d1
  obtain⟨rfl,-,-⟩:=qC hsh;obtain rfl:g= []:=List.eq_nil_of_length_eq_zero (by simpa using rp);cases O
  all_goals simp only[Bool.and_true,Bool.and_false,if_true,kT,if_false] at E
  all_goals go_enter func104,ntmps104
  all_goals go_wp2_with fail
  all_goals refine wp_loop_rounds 1 ?_
  all_goals rw[rounds_succ]
  all_goals go_wp2_with fail
  all_goals exact bodyPost_ret (v:= m0 1 r none 0 0) (by simp[results,results104,go_sem,E]) rfl ⟨_,rfl,W0.leaf _ _ _ _ _,(((xr w).alloc _).alloc _).alloc _⟩
 |false=>
  simp only[Bool.false_and,kT,if_false] at E;go_enter func104,ntmps104;go_wp2_with fail;obtain⟨m,C⟩: ∃m,m=(w.alloc (D0 k n A f.length cap)).alloc M0:=⟨_,rfl⟩;obtain⟨W,D⟩: ∃W,W=m.alloc (D0 k r none 0 0):=⟨_,rfl⟩;have X:m.heap.size=w.heap.size+1+1:=by rw[C];simp
  have om:W.heap.size=w.heap.size+3:=by rw[D];simp;omega
  have C0:Ext w m:=C▸((xr w).alloc _).alloc _;have dy:Ext m W:=D▸(xr m).alloc _;have F6:m.heap[w.heap.size+1]? =some M0:=by
   rw[C];exact(blk2 (xr _)).2.1
  have gp:W.heap[w.heap.size+1+1]? =some (D0 k r none 0 0):=by
   have:=heap_alloc_new m (D0 k r none 0 0);rw[X] at this;rw[D];exact this
  have S5:m.heap[w.heap.size]? =some (D0 k n A f.length cap):=by
   rw[C];exact(blk2 (xr _)).1
  rw[E] at D;rw[<-C,<-D];clear D C
  go_loopw [8] (fun i wr=> ∃(j:Nat) (v:aU),j<=f.length/\i= j0 j/\wr.heap[w.heap.size+1+1]? =some (.cells #[j0 k,j0 r,v] 25 (0,0))/\Y5 W wr 25 v (g.take j)/\Ext m wr/\W.heap.size<=wr.heap.size) (fun i _=> f.length -(intOf i).toNat)
  case atStart=> exact⟨0,_,Nat.zero_le _,rfl,gp,Y5.nil _ _ _,dy,aP _⟩
  case round=>
   obtain⟨j,v,hj,rfl,R,hG,z,H⟩:=hrel;by_cases B:j < f.length
   · obtain⟨b,o,k',n',A',s,kids,rfl,HK,c0,c1,c2,I7,I6,hK',x9,T⟩:=hK.get (C0.trans z) B
     have S:=AF (l:=g) (j:=j) (by omega) (Y3.out j B);rw[HK.out] at S;have xm:=Rq k j;have dh:=hsk _ T;have qu:(j:Int) <(f.length:Int):=by omega
     obtain⟨uu,hu⟩: ∃u,u=T4 k j:=⟨_,rfl⟩;have HU:=hdq (fun W=> IA k j W);rw[<-hu] at HU xm S;have jc:=hdq S;have sf:=hdq (IntWalk.i64_in (c+uu) ⟨by omega,by omega⟩);clear hu S;have hcm:=ya T;have L:(g.take j).length < 1099511627776:=by rw[dQ];omega
     have W4:(g.take j).length=j:=by rw[dQ];omega
     have HL:=hdq W4;have M3:=z.blk S5;obtain⟨t0,-,t2,-,-,-⟩:=own3 M3;have hj':(j:Int) <(f.length:Int):=by omega
     go_wp2_with fail;have J6:=H;have I5:=hG;have N2:=R;have hv:=E1 N2 2;have p9: ∀a,Below W.heap.size wr a->a.heap[w.heap.size+1+1]? =some (.cells #[j0 k,j0 r,v] 25 (0,0)):=fun a hB=>(hB.block (w.heap.size+1+1) (by omega)).trans N2
     have K:=hdq p9;have N:Ext wr wr.drew:=(xr wr).drew;have T9:=x9.ext N;have eu:=z;have Gc:=hK.lt B;have J:=hdq (show∀a,Below (w.heap.size+1) wr a->a.cell? ⟨w.heap.size,0,none⟩=some (j0 k)/\a.cell? ⟨w.heap.size,2,none⟩=some (.slice (some ⟨b,o,none⟩) f.length cap)/\a.cell? ⟨b,o+j*3,none⟩=some (j0 k')/\a.cell? ⟨b,o+j*3+1,none⟩=some (j0 n')/\a.cell? ⟨b,o+j*3+2,none⟩=some (.slice A' kids.length s) from fun a q=>
      ⟨(q.cell (p:=⟨w.heap.size,0,none⟩) (by show w.heap.size < _;omega)).trans t0,(q.cell (p:=⟨w.heap.size,2,none⟩) (by show w.heap.size < _;omega)).trans t2,(q.cell (p:=⟨b,o+j*3,none⟩) (by show b < _;omega)).trans c0,(q.cell (p:=⟨b,o+j*3+1,none⟩) (by show b < _;omega)).trans c1,(q.cell (p:=⟨b,o+j*3+2,none⟩) (by show b < _;omega)).trans c2⟩)
     have Kv:Below (w.heap.size+1) wr wr.drew:=(Below.refl _ _).drew;clear p9 W4 R hG z H I;rw[show Op.load 23 (Operand.tmp 35)=AA 23 35 from rfl]
     go_region_held_law (fun a=> a.cell? ⟨w.heap.size,0,none⟩=some (j0 k)/\a.cell? ⟨w.heap.size,2,none⟩=some (.slice (some ⟨b,o,none⟩) f.length cap)/\a.cell? ⟨b,o+j*3,none⟩=some (j0 k')/\a.cell? ⟨b,o+j*3+1,none⟩=some (j0 n')/\a.cell? ⟨b,o+j*3+2,none⟩=some (.slice A' kids.length s))
      (first|exact J.out _ ((Dj.setCell (by show _<=w.heap.size+1+1;omega) _)) |exact J.out _ Dj|exact J.out _ (xj.alloc (by omega) _) |exact J.out _ xj|exact J.out _ Kv)
      (first|(go_simp;go_at_call 127;refine(HU.out _).mono ?_;rintro e wu ⟨rfl,rfl⟩) |(go_simp;go_at_call 104;(try rw[sf.out]);refine(hk _ T _ _ y (c+uu) (d - 1) dh T9 (by omega) hy0 hy1 (by omega) (by omega)).mono ?_;rintro e w4 ⟨u,rfl,Y,M⟩;obtain⟨a1,a2,a3,a4,a5,rfl⟩:=Y.three';have G:=E1 (K.out _ ((N.trans M).below J6)) 2;have kh:=World.block_lt_of_cell? _ _ G;have xj:Below (w.heap.size+1) wr w4:=((N.trans M).below J6).mono (by omega)) |(refine ED _ (by rfl) (.tmp 36) (.tmp 50) _ (by rfl) 25 i0 _ underlying23 hi hz0 hz1 Z rfl (by rfl) I5 J6 (N.trans M) (Y.since (aP _)) ((xr _).alloc _) (by rfl) (heap_alloc_new _ _) L ?_;intro v' V C6 F;obtain⟨B5,c5,rfl,q1,q2,-⟩:=C6.made;have ln:=E1 (K.out _ F) 2;have un:=mc (K.out _ F) 2;have Dj:Below (w.heap.size+1) wr V:=F.mono (by omega)))
     all_goals(
      have X6:Ext m V:=eu.trans' F (by omega);have hs5:=F.size;have cn:=K.out _ F;rw[List.length_append,List.length_singleton,HL.out,jc.out] at C6;have jq:=fun u=> C6.after ((Ua.refl W.heap.size V).setCell (p:=⟨w.heap.size+1+1,2,none⟩) (by show w.heap.size+1+1 < W.heap.size;omega) u)
      clear G kh hv K Y M c0 c1 c2 t2 t0;go_wp2_with fail
      go_roundw
      case rel=> exact⟨j+1,_,by omega,by go_num,b6 cn 2 _,jq _,X6.setCell (by show _<=w.heap.size+1+1;omega) _,by simp;omega⟩
      case measure=> simp[intOf];omega)
   · obtain⟨B5,c5,rfl,q1,q2,ap⟩:=hG.made
     have V7:j=f.length:=by omega
     have xq:g.take j=g:=List.take_of_length_le (by omega);obtain⟨r0,r1,r2,-,-,-⟩:=own3 R;have M3:=z.blk S5;obtain⟨-,-,t2,-,-,-⟩:=own3 M3;have P4:=z.blk F6;obtain⟨s0,s1,s2,f0,f1,f2⟩:=own3 P4;rw[xq] at q1 r2 ap;clear R;go_wp2_with fail;refine bodyPost_ret (v:= m0 k r B5 g.length c5) (by simp[results,results104,go_sem,s0,s1,s2,E,rp]) rfl ⟨_,rfl, ?_, ?_⟩
     · exact W0.since (W0.after (W0.mk q1 q2 ap) ((((Ua.refl _ _).setCell (by show w.heap.size+1 < _;omega) _).setCell (by show w.heap.size+1 < _;omega) _).setCell (by show w.heap.size+1 < _;omega) _)) (by omega)
     · exact((((C0.trans z).setCell (by simp) _).setCell (by simp) _).setCell (by simp) _)
end Go.Proofs.YtckhbnmfnpolgaaGreat
namespace Go.Proofs.YtckhbnmfnpolgaaGreat
theorem ZG{k:Int}{n:Nat}(h:S0 k=(n:Int)):k=1\/k=2\/k=3\/k=4\/k=5\/k=6\/k=7\/k=8\/k=9\/k=10\/k=11\/k=12\/k=13\/k=14\/k=15\/k=16:=by
 by_cases hk:1<=k/\k<=16
 · omega
 · exfalso
   unfold S0 at h
   repeat rw[if_neg (by omega)] at h
   omega
end Go.Proofs.YtckhbnmfnpolgaaGreat
namespace Go.Proofs.YtckhbnmfnpolgaaGreat
open Go.RowKit
theorem InK.bound{w:aN}{S:Nat->Prop}{A:Option Addr}{a:List Tr}(h:InK w S A a):InK w (fun b=> S b/\b < w.heap.size) A a:=by
 rcases h with h|⟨b,o,rfl,c,hl⟩
 · exact .inl h
 · cases a with
   |nil=> exact .inl rfl
   |cons t ts=>
    refine .inr ⟨b,o,rfl,⟨c, ?_⟩,d5.bound hl⟩;unfold d5 at hl;obtain⟨⟨v0,v1,v2,d,-⟩,-⟩:=hl;exact World.block_lt_of_cell? _ _ d
theorem InT.keep{w W:aN}{N:Nat->Prop}{t:Tr}{v:aU}{g:Nat}(h:InT w N t v)(c:Ext w W)(d:w.heap.size<=g):InT W (fun b=> N b/\b≠g) t v:=
 InT.mono (fun b a=>⟨a.1,by omega⟩) (fun b a=> c.heap b a.2) h.bound
theorem InK.keep{w W:aN}{N:Nat->Prop}{A:Option Addr}{c:List Tr}{g:Nat}(h:InK w N A c)(d:Ext w W)(e:w.heap.size<=g):InK W (fun b=> N b/\b≠g) A c:=
 InK.mono (fun b a=>⟨a.1,by omega⟩) (fun b a=> d.heap b a.2) h.bound
theorem InK.later{w c:aN}{S:Nat->Prop}{A:Option Addr}{d:List Tr}(h:InK w S A d)(e:Ext w c):InK c S A d:=
 InK.mono (fun _ a=> a.1) (fun b a=> e.heap b a.2) h.bound
theorem InT.lies'{w:aN}{N:Nat->Prop}{t:Tr}{v:aU}(h:InT w N t v):Lies w t v:=InT.mono (fun b a=> a.2) (fun _ _=> rfl) h.bound
theorem InK.lies'{w:aN}{N:Nat->Prop}{A:Option Addr}{a:List Tr}(h:InK w N A a):V8 w A a:=InK.mono (fun b c=> c.2) (fun _ _=> rfl) h.bound
theorem InT.ret{W:aN}{N:Nat->Prop}{t:Tr}{v:aU}{g:Nat}(h:InT W (fun b=> N b/\b≠g) t v)(x y z:aU):InT (((W.setCell ⟨g,0,none⟩ x).setCell ⟨g,1,none⟩ y).setCell ⟨g,2,none⟩ z) N t v:=
 InT.mono (fun b a=> a.1) (fun b a=> by rw[Below.heap_setCell _ _ _ _ a.2,Below.heap_setCell _ _ _ _ a.2,Below.heap_setCell _ _ _ _ a.2]) h
theorem Z5(W:aN)(N:Nat->Prop)(k n:Int):InT W N (.mk k n []) (m0 k n none 0 0):=InT.mk_iff.2 ⟨none,0,rfl,aP _,Nat.zero_le _,.inl rfl⟩
theorem W0.at'{w a:aN}{N:Nat->Prop}{e:TypeId}{t:Tr}{v:aU}(h:W0 w a e t v)(hN: ∀b,w.heap.size<=b->N b):InT a N t v:=InT.mono (fun b c=> hN b c.1) (fun _ _=> rfl) (E2.made h)
theorem Va{w:aN}{N:Nat->Prop}{g n:Nat}(hN: ∀b,w.heap.size<=b->N b)(c:w.heap.size<=n)(a:g < n): ∀b,n<=b->N b/\b≠g:=fun b d=>⟨hN b (by omega),by omega⟩
def n9(N:Nat->Prop)(w:aN)(r:Tr×Int)(e:Ending)(a:aN):Prop:= ∃u,e= .returned (.tuple #[u,.int .i64 r.2])/\InT a N r.1 u/\Ext w a
end Go.Proofs.YtckhbnmfnpolgaaGreat
namespace Go.Proofs.YtckhbnmfnpolgaaGreat
mutual
def tw(p:Tr->Bool):Tr->Nat
 | .mk k n a=>(if p (.mk k n a)=true then 1 else 0)+Yj p a
def Yj(p:Tr->Bool):List Tr->Nat
 | []=> 0
 |t::ts=> tw p t+Yj p ts
end
mutual
theorem dq(p:Tr->Bool): ∀t:Tr,tw p t<=cnt t
 | .mk k n a=> by
  rw[tw,cnt];have:=mB p a
  split <;> omega
theorem mB(p:Tr->Bool): ∀a:List Tr,Yj p a<=O1 a
 | []=> by rw[Yj,O1];exact aP _
 |t::ts=> by
  rw[Yj,O1];have:=dq p t;have:=mB p ts;omega
end
def Xf(t:Tr):Bool:=J4 t !=0
def Qa:Tr->List Int->Option Tr
 |t, []=> some t
 | .mk _ _ a,i::r=> if 0<=i/\i < a.length then Qa (kd a i.toNat) r else none
theorem wB(t:Tr)(ts:List Tr)(i:Nat):kd (t::ts) (i+1)=kd ts i:=rfl
theorem Pk{ks:List Tr}{i:Nat}(h:i < ks.length):kd ks i∈ks:=by
 unfold kd;rw[dW,List.getElem?_eq_getElem h];exact List.getElem_mem h
theorem vF{g:Ud}: ∀(a:List Int) (t u:Tr) (d:Int),I0 g t d=true->Qa t a=some u->I0 g u (d - a.length)=true
 | [],t,u,d,h,e=> by
  have e:t=u:=by cases t;simpa[Qa] using e
  subst e
  simpa using h
 |i::a,.mk k n c,u,d,h,e=> by
  rw[Qa] at e
  split at e
  · rename_i hi
    have b:=(Iv h).2.2.2 (kd c i.toNat) (Pk (by omega));have:=vF a _ u (d - 1) b e;rw[bX,show d -((a.length+1:Nat):Int)=d - 1 - a.length by omega];exact this
  · cases e
theorem xE{g:Ud}{t:Tr}{d:Int}(h:I0 g t d=true):1<=d:=by
 obtain⟨k,n,a⟩:=t;simp only[I0,aX,decide_eq_true_eq] at h;exact h.1
mutual
def outT:Tr->Option (List Int)
 | .mk k n a=> if rdx k a=0 then rd 0 a else some []
def rd:Nat->List Tr->Option (List Int)
 |_, []=> none
 |i,t::ts=> match outT t with
  |some p=> some ((i:Int)::p)
  |none=> rd (i+1) ts
end
mutual
theorem Ny: ∀t:Tr,(outT t).isSome= !Om t
 | .mk k n a=> by
  rw[outT,Om];by_cases h:rdx k a=0
  · rw[if_pos h,sE a 0]
    simp[h]
  · rw[if_neg h]
    simp[h]
theorem sE: ∀(a:List Tr) (i:Nat),(rd i a).isSome= !Vg a
 | [],i=> by rw[rd,Vg];rfl
 |t::ts,i=> by
  have h:=Ny t;rw[rd,Vg];cases e:outT t with
  |some p=> rw[e] at h;simp at h;simp[h]
  |none=> rw[e] at h;simp at h;simp[h,sE ts (i+1)]
end
theorem Xy: ∀(t:Tr) (d:Int),I0 sigT t d=true-> ∀p,outT t=some p->(p.length:Int)<=d:=Tr.ind fun k n c hk=> by
 intro d h p e;have hd:=xE h;rw[outT] at e
 split at e
 · have key: ∀(i:Nat) (ts:List Tr),(∀t∈ts,t∈c)->rd i ts=some p->(p.length:Int)<=d:=by
    intro i ts
    induction ts generalizing i with
    |nil=> intro _ h;rw[rd] at h;cases h
    |cons t ts ih=>
     intro hm a;rw[rd] at a;cases b:outT t with
     |some q=>
      rw[b] at a;simp only[Option.some.injEq] at a;subst a;have:=hk t (hm t (by simp)) (d - 1) ((Iv h).2.2.2 t (hm t (by simp))) q b;simp only[bX];omega
     |none=>
      rw[b] at a;exact ih (i+1) (fun t ht=> hm t (by simp[ht])) a
   exact key 0 c (fun _ h=> h) e
 · simp only[Option.some.injEq] at e
   subst e;simp
   omega
