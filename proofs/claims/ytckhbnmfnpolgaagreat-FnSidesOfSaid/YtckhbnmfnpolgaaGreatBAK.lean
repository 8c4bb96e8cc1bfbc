/-
  Lemmas towards the law, 11: Par, Paths, Subst, ReadP, Keep.
-/
import Derived.Test.YtckhbnmfnpolgaaGreatBAJ
import Derived.Deep.RegionHeldLaw
import Derived.Lib.AtoiAll
import Derived.Lib.Strings
open Int renaming le_refl->jN,add_zero->dW
open List renaming getElem?_eq_none->jU,eq_nil_of_length_eq_zero->aZ,getElem?_map->iT,getElem?_eq_getElem->bV,getElem?_append_right->eR,map_toArray->fX,length_take->cU
open Nat renaming zero_add->eV,le_refl->aM,zero_le->bT,le_trans->bK
open Bool renaming and_eq_true->aW,false_eq_true->jP
open Go renaming World->aK,Value->aS,TypeId->aY
open Go.Value renaming int->eK
open Go.Proofs.Tryz
set_option linter.unusedVariables false
set_option maxHeartbeats 2000000
set_option maxRecDepth 100000
namespace Go.Proofs.YtckhbnmfnpolgaaGreat
open Go.RowKit
theorem wd(y:Int)(k n:Int)(a:List Tr)(c:Int):shfT y (.mk k n a) c= .mk k (if k=1/\c<=n then n+y else n) (n8 y k a 0 c):=by
 conv=> lhs;unfold shfT
theorem dB(u:Tr)(k n:Int)(a:List Tr)(x d:Int):Q0 u (.mk k n a) x d=if k=1/\n=x then shfT d u 0 else .mk k (if k=1/\x < n then n - 1 else n) (K8 u k a 0 x d):=by
 conv=> lhs;unfold Q0
theorem sl(u:Tr){k n:Int}(a:List Tr){x d:Int}(h:k=1/\n=x):Q0 u (.mk k n a) x d=shfT d u 0:=by rw[dB,if_pos h]
theorem Rc(u:Tr){k n:Int}(a:List Tr){x d:Int}(h: ¬(k=1/\n=x)):Q0 u (.mk k n a) x d= .mk k (if k=1/\x < n then n - 1 else n) (K8 u k a 0 x d):=by rw[dB,if_neg h]
mutual
theorem cD(a b:Int)(i:0<=b): ∀(t:Tr) (c d:Int),c<=d->d<=c+b->shfT a (shfT b t c) d=shfT (b+a) t c
 | .mk k n j,c,d,f,g=> by
  rw[wd,wd,wd,lD a b i k j 0 c d f g]
  congr 1
  by_cases hk:k=1
  · subst hk
    by_cases e:c<=n
    · rw[if_pos (show(1:Int)=1/\c<=n from⟨rfl,e⟩),if_pos (show(1:Int)=1/\c<=n from⟨rfl,e⟩),if_pos ⟨rfl,by omega⟩];omega
    · rw[if_neg (show¬((1:Int)=1/\c<=n) from fun h=> e h.2),if_neg (show¬((1:Int)=1/\c<=n) from fun h=> e h.2),if_neg (fun h=> by omega)]
  · rw[if_neg (fun h=> hk h.1),if_neg (fun h=> hk h.1),if_neg (fun h=> hk h.1)]
theorem lD(a b:Int)(e:0<=b): ∀(k:Int) (ts:List Tr) (i:Nat) (c d:Int),c<=d->d<=c+b->n8 a k (n8 b k ts i c) i d=n8 (b+a) k ts i c
 |_, [],_,_,_,_,_=> rfl
 |k,t::ts,i,c,d,f,g=> by
  simp only[n8];rw[cD a b e t _ _ (by omega) (by omega),lD a b e k ts (i+1) c d f g]
end
mutual
theorem QB(a b:Int)(i:0<=a)(j:0<=b): ∀(t:Tr) (d c:Int),d<=c->shfT a (shfT b t d) (c+b)=shfT b (shfT a t c) d
 | .mk k n l,d,c,g=> by
  rw[wd,wd,wd,wd,qC a b i j k l 0 d c g]
  congr 1
  by_cases hk:k=1
  · subst hk
    by_cases e:d<=n
    · rw[if_pos (show(1:Int)=1/\d<=n from⟨rfl,e⟩)]
      by_cases f:c<=n
      · rw[if_pos ⟨rfl,by omega⟩,if_pos (show(1:Int)=1/\c<=n from⟨rfl,f⟩),if_pos ⟨rfl,by omega⟩];omega
      · rw[if_neg (fun h=> by omega),if_neg (show¬((1:Int)=1/\c<=n) from fun h=> f h.2),if_pos ⟨rfl,e⟩]
    · rw[if_neg (show¬((1:Int)=1/\d<=n) from fun h=> e h.2),if_neg (fun h=> by omega),if_neg (show¬((1:Int)=1/\c<=n) from fun h=> by omega),if_neg (fun h=> by omega)]
  · rw[if_neg (fun h=> hk h.1),if_neg (fun h=> hk h.1),if_neg (fun h=> hk h.1),if_neg (fun h=> hk h.1)]
theorem qC(a b:Int)(e:0<=a)(f:0<=b): ∀(k:Int) (ts:List Tr) (i:Nat) (d c:Int),d<=c->n8 a k (n8 b k ts i d) i (c+b)=n8 b k (n8 a k ts i c) i d
 |_, [],_,_,_,_=> rfl
 |k,t::ts,i,d,c,g=> by
  simp only[n8];rw[show c+b+E4 k i=c+E4 k i+b by omega,QB a b e f t _ _ (by omega),qC a b e f k ts (i+1) d c g]
end
mutual
theorem BC(u:Tr)(y:Int)(j:0<=y): ∀(t:Tr) (x d c:Int),0<=c->c<=x->c<=d->shfT y (Q0 u t x d) c=Q0 u (shfT y t c) (x+y) (d+y)
 | .mk k n e,x,d,c,f,g,l=> by
  by_cases hv:k=1/\n=x
  · obtain⟨rfl,rfl⟩:=hv
    rw[sl u e ⟨rfl,rfl⟩,wd,if_pos (show(1:Int)=1/\c<=n from⟨rfl,g⟩),sl u _ ⟨rfl,rfl⟩];exact cD y d (by omega) u 0 c f (by omega)
  · rw[Rc u e hv,wd,wd]
    have b: ¬(k=1/\(if k=1/\c<=n then n+y else n)=x+y):=by
     rintro⟨rfl,h⟩;by_cases a:c<=n
     · rw[if_pos ⟨rfl,a⟩] at h;exact hv ⟨rfl,by omega⟩
     · rw[if_neg (fun h=> a h.2)] at h;omega
    rw[Rc u _ b,jJ u y j k e 0 x d c f g l]
    congr 1
    by_cases hk:k=1
    · subst hk
      simp only[true_and];have hn:n≠x:=fun h=> hv ⟨rfl,h⟩
      by_cases a:x < n
      · rw[if_pos a,if_pos (show c<=n - 1 by omega),if_pos (show c<=n by omega),if_pos (by omega)];omega
      · rw[if_neg a]
        by_cases i:c<=n
        · rw[if_pos i,if_neg (by omega)]
        · rw[if_neg i,if_neg (by omega)]
    · rw[if_neg (fun h=> hk h.1),if_neg (fun h=> hk h.1),if_neg (fun h=> hk h.1),if_neg (fun h=> hk h.1)]
theorem jJ(u:Tr)(y:Int)(a:0<=y): ∀(k:Int) (ts:List Tr) (i:Nat) (x d c:Int),0<=c->c<=x->c<=d->n8 y k (K8 u k ts i x d) i c=K8 u k (n8 y k ts i c) i (x+y) (d+y)
 |_, [],_,_,_,_,_,_,_=> rfl
 |k,t::ts,i,x,d,c,b,e,f=> by
  have:=Xp k i;simp only[K8,n8];rw[BC u y a t _ _ _ (by omega) (by omega) (by omega),jJ u y a k ts (i+1) x d c b e f,show x+y+E4 k i=x+E4 k i+y by omega,show d+y+E4 k i=d+E4 k i+y by omega]
end
mutual
theorem ZI(u:Tr)(y c:Int)(g:0<=y)(hc:0<=c): ∀(t:Tr) (x d:Int),0<=d->x<=c+d->shfT y (Q0 u t x d) (c+d)=Q0 (shfT y u c) (shfT y t (c+d+1)) x d
 | .mk k n e,x,d,f,j=> by
  by_cases hv:k=1/\n=x
  · obtain⟨rfl,rfl⟩:=hv
    rw[sl u e ⟨rfl,rfl⟩,wd,if_neg (show¬((1:Int)=1/\c+d+1<=n) from fun h=> by omega),sl _ _ ⟨rfl,rfl⟩];exact QB y d g f u 0 c hc
  · rw[Rc u e hv,wd,wd]
    have b: ¬(k=1/\(if k=1/\c+d+1<=n then n+y else n)=x):=by
     rintro⟨rfl,h⟩;by_cases a:c+d+1<=n
     · rw[if_pos ⟨rfl,a⟩] at h;omega
     · rw[if_neg (fun h=> a h.2)] at h;exact hv ⟨rfl,h⟩
    rw[Rc _ _ b,XI u y c g hc k e 0 x d f j]
    congr 1
    by_cases hk:k=1
    · subst hk
      simp only[true_and];have hn:n≠x:=fun h=> hv ⟨rfl,h⟩
      by_cases a:x < n
      · rw[if_pos a]
        by_cases i:c+d<=n - 1
        · rw[if_pos i,if_pos (show c+d+1<=n by omega),if_pos (by omega)];omega
        · rw[if_neg i,if_neg (show¬c+d+1<=n by omega),if_pos a]
      · rw[if_neg a,if_neg (show¬c+d<=n by omega),if_neg (show¬c+d+1<=n by omega),if_neg a]
    · rw[if_neg (fun h=> hk h.1),if_neg (fun h=> hk h.1),if_neg (fun h=> hk h.1),if_neg (fun h=> hk h.1)]
theorem XI(u:Tr)(y c:Int)(a:0<=y)(hc:0<=c): ∀(k:Int) (ts:List Tr) (i:Nat) (x d:Int),0<=d->x<=c+d->n8 y k (K8 u k ts i x d) i (c+d)=K8 (shfT y u c) k (n8 y k ts i (c+d+1)) i x d
 |_, [],_,_,_,_,_=> rfl
 |k,t::ts,i,x,d,b,e=> by
  have:=Xp k i;simp only[K8,n8];rw[show c+d+E4 k i=c+(d+E4 k i) by omega,ZI u y c a hc t _ _ (by omega) (by omega),XI u y c a hc k ts (i+1) x d b e,show c+d+1+E4 k i=c+(d+E4 k i)+1 by omega]
end
mutual
theorem NA(u:Tr)(e:Int)(i:0<=e): ∀(t:Tr) (x d b:Int),b<=x->x<=b+e->Q0 u (shfT (e+1) t b) x d=shfT e t b
 | .mk k n g,x,d,b,c,f=> by
  rw[wd,wd];by_cases hk:k=1
  · subst hk
    by_cases a:b<=n
    · rw[if_pos (show(1:Int)=1/\b<=n from⟨rfl,a⟩),if_pos (show(1:Int)=1/\b<=n from⟨rfl,a⟩),Rc _ _ (fun h=> by omega),No u e i 1 g 0 x d b c f,if_pos ⟨rfl,by omega⟩]
      congr 1
      omega
    · rw[if_neg (show¬((1:Int)=1/\b<=n) from fun h=> a h.2),if_neg (show¬((1:Int)=1/\b<=n) from fun h=> a h.2),Rc _ _ (fun h=> by omega),No u e i 1 g 0 x d b c f,if_neg (fun h=> by omega)]
  · rw[if_neg (fun h=> hk h.1),if_neg (fun h=> hk h.1),Rc _ _ (fun h=> hk h.1),No u e i k g 0 x d b c f,if_neg (fun h=> hk h.1)]
theorem No(u:Tr)(e:Int)(a:0<=e): ∀(k:Int) (ts:List Tr) (i:Nat) (x d b:Int),b<=x->x<=b+e->K8 u k (n8 (e+1) k ts i b) i x d=n8 e k ts i b
 |_, [],_,_,_,_,_,_=> rfl
 |k,t::ts,i,x,d,b,c,f=> by
  simp only[n8,K8];rw[NA u e a t _ _ _ (by omega) (by omega),No u e a k ts (i+1) x d b c f]
end
mutual
theorem MC(u a:Tr)(x d:Int)(hx:0<=x)(hd:0<=d): ∀(t:Tr) (b:Int),0<=b->Q0 u (Q0 a t b b) (x+b) (d+b)=Q0 (Q0 u a x d) (Q0 u t (x+1+b) (d+1+b)) b b
 | .mk k n c,b,j=> by
  by_cases hk:k=1
  · subst hk
    by_cases e:n=b
    · subst e
      have f:Q0 a (.mk 1 n c) n n=shfT n a 0:=sl _ _ ⟨rfl,rfl⟩;have g:Q0 u (.mk 1 n c) (x+1+n) (d+1+n)= .mk 1 n (K8 u 1 c 0 (x+1+n) (d+1+n)):=by
       rw[Rc _ _ (fun h=> by omega),if_neg (fun h=> by omega)]
      rw[f,g,sl _ _ ⟨rfl,rfl⟩,BC u n j a x d 0 (jN _) hx hd]
    · by_cases o:n=x+1+b
      · have f:Q0 a (.mk 1 n c) b b= .mk 1 (n - 1) (K8 a 1 c 0 b b):=by
         rw[Rc _ _ (fun h=> e h.2),if_pos ⟨rfl,by omega⟩]
        have g:Q0 u (.mk 1 n c) (x+1+b) (d+1+b)=shfT (d+1+b) u 0:=sl _ _ ⟨rfl,o⟩;rw[f,g,sl _ _ ⟨rfl,by omega⟩,show d+1+b=d+b+1 by omega,NA _ (d+b) (by omega) u b b 0 j (by omega)]
      · have f:Q0 a (.mk 1 n c) b b= .mk 1 (if b < n then n - 1 else n) (K8 a 1 c 0 b b):=by
         rw[Rc _ _ (fun h=> e h.2)];simp
        have g:Q0 u (.mk 1 n c) (x+1+b) (d+1+b)= .mk 1 (if x+1+b < n then n - 1 else n) (K8 u 1 c 0 (x+1+b) (d+1+b)):=by
         rw[Rc _ _ (fun h=> o h.2)];simp
        rw[f,g];have hs:=Yt u a x d hx hd 1 c 0 b j;by_cases i:b < n
        · rw[if_pos i]
          by_cases m:x+1+b < n
          · rw[if_pos m,Rc _ _ (fun h=> by omega),Rc _ _ (fun h=> by omega),hs,if_pos ⟨rfl,by omega⟩,if_pos ⟨rfl,by omega⟩]
          · rw[if_neg m,Rc _ _ (fun h=> by omega),Rc _ _ (fun h=> e h.2),hs,if_neg (fun h=> by omega),if_pos ⟨rfl,i⟩]
        · rw[if_neg i,if_neg (show¬x+1+b < n by omega),Rc _ _ (fun h=> by omega),Rc _ _ (fun h=> e h.2),hs,if_neg (fun h=> by omega),if_neg (fun h=> i h.2)]
  · have q: ∀(v:Tr) (l:List Tr) (y z:Int),Q0 v (.mk k n l) y z= .mk k n (K8 v k l 0 y z):=fun v l y z=> by
     rw[Rc _ _ (fun h=> hk h.1),if_neg (fun h=> hk h.1)]
    rw[q,q,q,q,Yt u a x d hx hd k c 0 b j]
theorem Yt(u a:Tr)(x d:Int)(hx:0<=x)(hd:0<=d): ∀(k:Int) (ts:List Tr) (i:Nat) (b:Int),0<=b->K8 u k (K8 a k ts i b b) i (x+b) (d+b)=K8 (Q0 u a x d) k (K8 u k ts i (x+1+b) (d+1+b)) i b b
 |_, [],_,_,_=> rfl
 |k,t::ts,i,b,c=> by
  have:=Xp k i;simp only[K8];rw[show x+b+E4 k i=x+(b+E4 k i) by omega,show d+b+E4 k i=d+(b+E4 k i) by omega,MC u a x d hx hd t _ (by omega),Yt u a x d hx hd k ts (i+1) b c,show x+1+b+E4 k i=x+1+(b+E4 k i) by omega,show d+1+b+E4 k i=d+1+(b+E4 k i) by omega]
end
theorem xI(u a t:Tr){x d:Int}(hx:0<=x)(hd:0<=d):Q0 u (Q0 a t 0 0) x d=Q0 (Q0 u a x d) (Q0 u t (x+1) (d+1)) 0 0:=by
 have:=MC u a x d hx hd t 0 (jN _)
 simpa using this
theorem qF(a t:Tr){y c:Int}(b:0<=y)(hc:0<=c):shfT y (Q0 a t 0 0) c=Q0 (shfT y a c) (shfT y t (c+1)) 0 0:=by
 have:=ZI a y c b hc t 0 0 (jN _) (by omega)
 simpa using this
def kd(a:List Tr)(i:Nat):Tr:=a.getD i E2
def rdx(k:Int)(a:List Tr):Int:=
 if k=5 then(if(kd a 0).kind=4 then 1 else 0)
 else if k=9 then(if(kd a 3).kind=7 then 2 else if(kd a 3).kind=8 then 3 else 0)
 else if k=12 then(if(kd a 1).kind=11 then 4 else 0)
 else if k=15 then(if(kd a 0).kind=14 then 5 else 0)
 else if k=16 then(if(kd a 0).kind=14 then 6 else 0)
 else 0
def ctr(k:Int)(a:List Tr):Tr:=
 if k=5 then Q0 (kd a 1) (kd (kd a 0).kids 1) 0 0
 else if k=9 then(if(kd a 3).kind=7 then kd a 1 else .mk 5 0 [.mk 5 0 [kd a 2,kd (kd a 3).kids 0],.mk 9 0 [kd a 0,kd a 1,kd a 2,kd (kd a 3).kids 0]])
 else if k=12 then kd a 2
 else if k=15 then kd (kd a 0).kids 1
 else kd (kd a 0).kids 2
def U3:Tr->Int
 | .mk k _ a=> rdx k a
def ctrT:Tr->Tr
 | .mk k _ a=> ctr k a
theorem Sl{k:Int}{b:List Tr}(h:k≠5)(c:k≠9)(e:k≠12)(d:k≠15)(a:k≠16):rdx k b=0:=by
 unfold rdx;rw[if_neg h,if_neg c,if_neg e,if_neg d,if_neg a]
mutual
inductive Par:Tr->Tr->Prop where
 |node {k n:Int} {ks ks':List Tr}:d5 ks ks'->Par (.mk k n ks) (.mk k n ks')
 |red {k n:Int} {ks ks':List Tr}:rdx k ks≠0->d5 ks ks'->Par (.mk k n ks) (ctr k ks')
inductive d5:List Tr->List Tr->Prop where
 |nil:d5 [] []
 |cons {t t':Tr} {ts bo:List Tr}:Par t t'->d5 ts bo->d5 (t::ts) (t'::bo)
end
mutual
theorem Par.refl: ∀t:Tr,Par t t
 | .mk k n a=> .node (d5.refl a)
theorem d5.refl: ∀ts:List Tr,d5 ts ts
 | []=> .nil
 |t::ts=> .cons (Par.refl t) (d5.refl ts)
end
theorem d5.kd: ∀{a b:List Tr},d5 a b-> ∀i,Par (kd a i) (kd b i)
 |_,_,.nil,i=> by simpa[Go.Proofs.YtckhbnmfnpolgaaGreat.kd] using Par.refl E2
 |_,_,.cons h _,0=> by simpa[Go.Proofs.YtckhbnmfnpolgaaGreat.kd] using h
 |_,_,.cons _ h,i+1=> by simpa[Go.Proofs.YtckhbnmfnpolgaaGreat.kd] using h.kd i
theorem Par.keep{t a:Tr}(h:Par t a)(d:t.kind≠5)(e:t.kind≠9)(g:t.kind≠12)(f:t.kind≠15)(c:t.kind≠16):a.kind=t.kind/\a.num=t.num/\d5 t.kids a.kids:=by
 cases h with
 |node h=> exact⟨rfl,rfl,h⟩
 |red b h=> exact absurd (Sl d e g f c) b
theorem d5.rdx{k:Int}{a b:List Tr}(h:d5 a b)(hr:rdx k a≠0):Go.Proofs.YtckhbnmfnpolgaaGreat.rdx k b=Go.Proofs.YtckhbnmfnpolgaaGreat.rdx k a:=by
 have key: ∀i c,c=4\/c=7\/c=8\/c=11\/c=14->(Go.Proofs.YtckhbnmfnpolgaaGreat.kd a i).kind=c->(Go.Proofs.YtckhbnmfnpolgaaGreat.kd b i).kind=c:=fun i c hc n=> by
  have d:=(h.kd i).keep (by omega) (by omega) (by omega) (by omega) (by omega);rw[d.1,n]
 unfold Go.Proofs.YtckhbnmfnpolgaaGreat.rdx at hr⊢;by_cases e:k=5
 · rw[if_pos e,if_pos e]
   rw[if_pos e] at hr;by_cases d:(Go.Proofs.YtckhbnmfnpolgaaGreat.kd a 0).kind=4
   · rw[if_pos d,if_pos (key 0 4 (by omega) d)]
   · rw[if_neg d] at hr;exact absurd rfl hr
 rw[if_neg e,if_neg e];rw[if_neg e] at hr;by_cases f:k=9
 · rw[if_pos f,if_pos f]
   rw[if_pos f] at hr;by_cases d:(Go.Proofs.YtckhbnmfnpolgaaGreat.kd a 3).kind=7
   · rw[if_pos d,if_pos (key 3 7 (by omega) d)]
   · rw[if_neg d] at hr⊢
     by_cases m:(Go.Proofs.YtckhbnmfnpolgaaGreat.kd a 3).kind=8
     · have:=key 3 8 (by omega) m
       rw[if_pos m,if_neg (by omega),if_pos this]
     · rw[if_neg m] at hr;exact absurd rfl hr
 rw[if_neg f,if_neg f];rw[if_neg f] at hr;by_cases j:k=12
 · rw[if_pos j,if_pos j]
   rw[if_pos j] at hr;by_cases d:(Go.Proofs.YtckhbnmfnpolgaaGreat.kd a 1).kind=11
   · rw[if_pos d,if_pos (key 1 11 (by omega) d)]
   · rw[if_neg d] at hr;exact absurd rfl hr
 rw[if_neg j,if_neg j];rw[if_neg j] at hr;by_cases g:k=15
 · rw[if_pos g,if_pos g]
   rw[if_pos g] at hr;by_cases d:(Go.Proofs.YtckhbnmfnpolgaaGreat.kd a 0).kind=14
   · rw[if_pos d,if_pos (key 0 14 (by omega) d)]
   · rw[if_neg d] at hr;exact absurd rfl hr
 rw[if_neg g,if_neg g];rw[if_neg g] at hr;by_cases l:k=16
 · rw[if_pos l,if_pos l]
   rw[if_pos l] at hr;by_cases d:(Go.Proofs.YtckhbnmfnpolgaaGreat.kd a 0).kind=14
   · rw[if_pos d,if_pos (key 0 14 (by omega) d)]
   · rw[if_neg d] at hr;exact absurd rfl hr
 · rw[if_neg l] at hr;exact absurd rfl hr
theorem wA(y:Int)(k:Int): ∀(ts:List Tr) (i j:Nat) (c:Int),j < ts.length->kd (n8 y k ts i c) j=shfT y (kd ts j) (c+E4 k (i+j))
 |t::ts,i,0,c,h=> by simp[n8,kd]
 |t::ts,i,j+1,c,h=> by
  have:=wA y k ts (i+1) j c (by simpa using h);simp only[n8,kd,List.getD_cons_succ] at this⊢;rw[this,show i+1+j=i+(j+1) by omega]
theorem uC(u:Tr)(k:Int): ∀(ts:List Tr) (i j:Nat) (x d:Int),j < ts.length->kd (K8 u k ts i x d) j=Q0 u (kd ts j) (x+E4 k (i+j)) (d+E4 k (i+j))
 |t::ts,i,0,x,d,h=> by simp[K8,kd]
 |t::ts,i,j+1,x,d,h=> by
  have:=uC u k ts (i+1) j x d (by simpa using h);simp only[K8,kd,List.getD_cons_succ] at this⊢;rw[this,show i+1+j=i+(j+1) by omega]
theorem Mi{ts:List Tr}{j:Nat}(h:ts.length<=j):kd ts j=E2:=by
 unfold kd;rw[List.getD_eq_getElem?_getD,jU h]
 rfl
theorem OH(y c:Int):shfT y E2 c=E2:=by
 unfold E2;rw[wd,if_neg (fun h=> by omega)]
 rfl
theorem iE(u:Tr)(x d:Int):Q0 u E2 x d=E2:=by
 unfold E2;rw[Rc _ _ (fun h=> by omega),if_neg (fun h=> by omega)]
 rfl
theorem Gf(y k:Int)(ts:List Tr)(j:Nat)(c:Int):kd (n8 y k ts 0 c) j=shfT y (kd ts j) (c+E4 k j):=by
 rcases Nat.lt_or_ge j ts.length with h|h
 · rw[wA y k ts 0 j c h,eV]
 · rw[Mi h,Mi (by rw[LA];exact h),OH]
theorem Hf(u:Tr)(k:Int)(ts:List Tr)(j:Nat)(x d:Int):kd (K8 u k ts 0 x d) j=Q0 u (kd ts j) (x+E4 k j) (d+E4 k j):=by
 rcases Nat.lt_or_ge j ts.length with h|h
 · rw[uC u k ts 0 j x d h,eV]
 · rw[Mi h,Mi (by rw[GD];exact h),iE]
theorem Hc{k:Int}(c:k≠3)(a:k≠4)(b:k≠13)(j:Nat):E4 k j=0:=by
 unfold E4;rw[if_neg (by omega)]
theorem dC(y:Int)(t:Tr)(c:Int):(shfT y t c).kind=t.kind/\(shfT y t c).kids=n8 y t.kind t.kids 0 c:=by
 obtain⟨k,n,a⟩:=t;rw[wd];exact⟨rfl,rfl⟩
theorem PB(u:Tr)(t:Tr)(x d:Int)(h:t.kind≠1):(Q0 u t x d).kind=t.kind/\(Q0 u t x d).kids=K8 u t.kind t.kids 0 x d:=by
 obtain⟨k,n,a⟩:=t;have hk:k≠1:=h;rw[Rc (k:=k) (n:=n) u a (fun e=> hk e.1)];exact⟨rfl,rfl⟩
theorem Uk{k:Int}{b:List Tr}(h:rdx k b≠0):(k=5/\(kd b 0).kind=4)\/(k=9/\(kd b 3).kind=7)\/(k=9/\(kd b 3).kind=8)\/(k=12/\(kd b 1).kind=11)\/(k=15/\(kd b 0).kind=14)\/(k=16/\(kd b 0).kind=14):=by
 unfold rdx at h;by_cases e:k=5
 · rw[if_pos e] at h
   by_cases a:(kd b 0).kind=4
   · exact .inl ⟨e,a⟩
   · rw[if_neg a] at h;exact absurd rfl h
 rw[if_neg e] at h;by_cases c:k=9
 · rw[if_pos c] at h
   by_cases a:(kd b 3).kind=7
   · exact .inr (.inl ⟨c,a⟩)
   · rw[if_neg a] at h
     by_cases i:(kd b 3).kind=8
     · exact .inr (.inr (.inl ⟨c,i⟩))
     · rw[if_neg i] at h;exact absurd rfl h
 rw[if_neg c] at h;by_cases g:k=12
 · rw[if_pos g] at h
   by_cases a:(kd b 1).kind=11
   · exact .inr (.inr (.inr (.inl ⟨g,a⟩)))
   · rw[if_neg a] at h;exact absurd rfl h
 rw[if_neg g] at h;by_cases f:k=15
 · rw[if_pos f] at h
   by_cases a:(kd b 0).kind=14
   · exact .inr (.inr (.inr (.inr (.inl ⟨f,a⟩))))
   · rw[if_neg a] at h;exact absurd rfl h
 rw[if_neg f] at h;by_cases d:k=16
 · rw[if_pos d] at h
   by_cases a:(kd b 0).kind=14
   · exact .inr (.inr (.inr (.inr (.inr ⟨d,a⟩))))
   · rw[if_neg a] at h;exact absurd rfl h
 · rw[if_neg d] at h;exact absurd rfl h
theorem wi{k:Int}{a:List Tr}(h:(k=5/\(kd a 0).kind=4)\/(k=9/\(kd a 3).kind=7)\/(k=9/\(kd a 3).kind=8)\/(k=12/\(kd a 1).kind=11)\/(k=15/\(kd a 0).kind=14)\/(k=16/\(kd a 0).kind=14)):rdx k a≠0:=by
 rcases h with⟨rfl,h⟩ |⟨rfl,h⟩ |⟨rfl,h⟩ |⟨rfl,h⟩ |⟨rfl,h⟩ |⟨rfl,h⟩ <;>(unfold rdx;simp[h])
theorem iq{a:List Tr}:ctr 5 a=Q0 (kd a 1) (kd (kd a 0).kids 1) 0 0:=rfl
theorem nq{a:List Tr}(h:(kd a 3).kind=7):ctr 9 a=kd a 1:=by unfold ctr;simp[h]
theorem Oq{a:List Tr}(h:(kd a 3).kind=8):ctr 9 a= .mk 5 0 [.mk 5 0 [kd a 2,kd (kd a 3).kids 0],.mk 9 0 [kd a 0,kd a 1,kd a 2,kd (kd a 3).kids 0]]:=by unfold ctr;simp[h]
theorem Sw{a:List Tr}:ctr 12 a=kd a 2:=rfl
theorem Dq{a:List Tr}:ctr 15 a=kd (kd a 0).kids 1:=rfl
theorem qr{a:List Tr}:ctr 16 a=kd (kd a 0).kids 2:=rfl
theorem xC:E4 4 1=1:=rfl
theorem av(y k n:Int)(a:List Tr)(c:Int)(h:k≠1):shfT y (.mk k n a) c= .mk k n (n8 y k a 0 c):=by rw[wd,if_neg (fun e=> h e.1)]
theorem Gs(u:Tr)(k n:Int)(a:List Tr)(x d:Int)(h:k≠1):Q0 u (.mk k n a) x d= .mk k n (K8 u k a 0 x d):=by rw[Rc _ _ (fun e=> h e.1),if_neg (fun e=> h e.1)]
theorem Sx{k:Int}{a:List Tr}(h:rdx k a≠0){y c:Int}(e:0<=y)(hc:0<=c):rdx k (n8 y k a 0 c)≠0/\shfT y (ctr k a) c=ctr k (n8 y k a 0 c):=by
 have b:=Uk h;have d: ∀j,(kd (n8 y k a 0 c) j).kind=(kd a j).kind:=fun j=> by rw[Gf];exact(dC y _ _).1
 refine⟨wi (by simpa only[d] using b), ?_⟩;rcases b with⟨rfl,g⟩ |⟨rfl,g⟩ |⟨rfl,g⟩ |⟨rfl,g⟩ |⟨rfl,g⟩ |⟨rfl,g⟩
 · rw[iq,iq,Gf,Gf,(dC y _ _).2,g,Gf,xC,Hc (by decide) (by decide) (by decide),Hc (by decide) (by decide) (by decide),dW,qF _ _ e hc]
 · rw[nq g,nq (by rw[d,g]),Gf,Hc (by decide) (by decide) (by decide),dW]
 · rw[Oq g,Oq (by rw[d,g])]
   rw[Gf,Gf,Gf,Gf,(dC y _ _).2,g,Gf];simp only[Hc (show(9:Int)≠3 by decide) (by decide) (by decide),Hc (show(8:Int)≠3 by decide) (by decide) (by decide),dW];rw[av _ 5 _ _ _ (by decide)];simp only[n8,Hc (show(5:Int)≠3 by decide) (by decide) (by decide),dW];rw[av _ 5 _ _ _ (by decide),av _ 9 _ _ _ (by decide)];simp only[n8,Hc (show(5:Int)≠3 by decide) (by decide) (by decide),Hc (show(9:Int)≠3 by decide) (by decide) (by decide),dW]
 · rw[Sw,Sw,Gf,Hc (by decide) (by decide) (by decide),dW]
 · rw[Dq,Dq,Gf,(dC y _ _).2,g,Gf,Hc (by decide) (by decide) (by decide),Hc (by decide) (by decide) (by decide),dW,dW]
 · rw[qr,qr,Gf,(dC y _ _).2,g,Gf,Hc (by decide) (by decide) (by decide),Hc (by decide) (by decide) (by decide),dW,dW]
theorem zy{k:Int}{c:List Tr}(h:rdx k c≠0)(u:Tr){x d:Int}(hx:0<=x)(hd:0<=d):rdx k (K8 u k c 0 x d)≠0/\Q0 u (ctr k c) x d=ctr k (K8 u k c 0 x d):=by
 have e:=Uk h;have b: ∀j,(kd c j).kind≠1->(kd (K8 u k c 0 x d) j).kind=(kd c j).kind:=fun j f=> by rw[Hf];exact(PB u _ _ _ f).1
 refine⟨wi ?_, ?_⟩
 · rcases e with⟨a,g⟩ |⟨a,g⟩ |⟨a,g⟩ |⟨a,g⟩ |⟨a,g⟩ |⟨a,g⟩
   · exact .inl ⟨a,by rw[b _ (by omega),g]⟩
   · exact .inr (.inl ⟨a,by rw[b _ (by omega),g]⟩)
   · exact .inr (.inr (.inl ⟨a,by rw[b _ (by omega),g]⟩))
   · exact .inr (.inr (.inr (.inl ⟨a,by rw[b _ (by omega),g]⟩)))
   · exact .inr (.inr (.inr (.inr (.inl ⟨a,by rw[b _ (by omega),g]⟩))))
   · exact .inr (.inr (.inr (.inr (.inr ⟨a,by rw[b _ (by omega),g]⟩))))
 rcases e with⟨rfl,g⟩ |⟨rfl,g⟩ |⟨rfl,g⟩ |⟨rfl,g⟩ |⟨rfl,g⟩ |⟨rfl,g⟩
 · rw[iq,iq,Hf,Hf,(PB u _ _ _ (by omega)).2,g,Hf,xC,Hc (by decide) (by decide) (by decide),Hc (by decide) (by decide) (by decide),dW,dW,xI _ _ _ hx hd]
 · rw[nq g,nq (by rw[b _ (by omega),g]),Hf,Hc (by decide) (by decide) (by decide),dW,dW]
 · rw[Oq g,Oq (by rw[b _ (by omega),g])]
   rw[Hf,Hf,Hf,Hf,(PB u _ _ _ (by omega)).2,g,Hf];simp only[Hc (show(9:Int)≠3 by decide) (by decide) (by decide),Hc (show(8:Int)≠3 by decide) (by decide) (by decide),dW];rw[Gs _ 5 _ _ _ _ (by decide)];simp only[K8,Hc (show(5:Int)≠3 by decide) (by decide) (by decide),dW];rw[Gs _ 5 _ _ _ _ (by decide),Gs _ 9 _ _ _ _ (by decide)];simp only[K8,Hc (show(5:Int)≠3 by decide) (by decide) (by decide),Hc (show(9:Int)≠3 by decide) (by decide) (by decide),dW]
 · rw[Sw,Sw,Hf,Hc (by decide) (by decide) (by decide),dW,dW]
 · rw[Dq,Dq,Hf,(PB u _ _ _ (by omega)).2,g,Hf,Hc (by decide) (by decide) (by decide),Hc (by decide) (by decide) (by decide)]
   simp only[dW]
 · rw[qr,qr,Hf,(PB u _ _ _ (by omega)).2,g,Hf,Hc (by decide) (by decide) (by decide),Hc (by decide) (by decide) (by decide)]
   simp only[dW]
mutual
theorem Par.shf{y:Int}(a:0<=y): ∀{t b:Tr} (c:Int),0<=c->Par t b->Par (shfT y t c) (shfT y b c)
 |_,_,c,hc,.node h=> by
  rw[wd,wd];exact .node (d5.shf a _ 0 c hc h)
 |_,_,c,hc,.red (k:=k) (n:=n) (ks:=ks) (ks':=ks') h0 h=> by
  have d:=Sx (show rdx k ks'≠0 by rw[h.rdx h0];exact h0) a hc;rw[wd,d.2];exact .red (Sx h0 a hc).1 (d5.shf a _ 0 c hc h)
theorem d5.shf{y:Int}(b:0<=y): ∀{ts a:List Tr} (k:Int) (i:Nat) (c:Int),0<=c->d5 ts a->d5 (n8 y k ts i c) (n8 y k a i c)
 |_,_,k,i,c,hc,.nil=> .nil
 |_,_,k,i,c,hc,.cons h hs=> by
  have:=Xp k i;simp only[n8];exact .cons (Par.shf b _ (by omega) h) (d5.shf b k (i+1) c hc hs)
end
mutual
theorem Par.sbs{u a:Tr}(b:Par u a): ∀{t c:Tr} (x d:Int),0<=x->0<=d->Par t c->Par (Q0 u t x d) (Q0 a c x d)
 |_,_,x,d,hx,hd,.node (k:=k) (n:=n) h=> by
  by_cases hv:k=1/\n=x
  · rw[sl _ _ hv,sl _ _ hv]
    exact b.shf hd 0 (jN _)
  · rw[Rc _ _ hv,Rc _ _ hv]
    exact .node (d5.sbs b _ 0 x d hx hd h)
 |_,_,x,d,hx,hd,.red (k:=k) (n:=n) (ks:=ks) (ks':=ks') h0 h=> by
  have f:=zy (show rdx k ks'≠0 by rw[h.rdx h0];exact h0) a hx hd;have hv: ¬(k=1/\n=x):=fun e=> h0 (Sl (by omega) (by omega) (by omega) (by omega) (by omega))
  rw[Rc _ _ hv,f.2];exact .red (zy h0 u hx hd).1 (d5.sbs b _ 0 x d hx hd h)
theorem d5.sbs{u a:Tr}(c:Par u a): ∀{ts b:List Tr} (k:Int) (i:Nat) (x d:Int),0<=x->0<=d->d5 ts b->d5 (K8 u k ts i x d) (K8 a k b i x d)
 |_,_,k,i,x,d,hx,hd,.nil=> .nil
 |_,_,k,i,x,d,hx,hd,.cons h hs=> by
  have:=Xp k i;simp only[K8];exact .cons (Par.sbs c _ _ (by omega) (by omega) h) (d5.sbs c k (i+1) x d hx hd hs)
end
theorem Par.kids_of{t a:Tr}(h:Par t a)(hk:t.kind=4\/t.kind=7\/t.kind=8\/t.kind=11\/t.kind=14):a.kind=t.kind/\d5 t.kids a.kids:=by
 have:=h.keep (by omega) (by omega) (by omega) (by omega) (by omega);exact⟨this.1,this.2.2⟩
theorem d5.ctr{k:Int}{a b:List Tr}(h:d5 a b)(f:Go.Proofs.YtckhbnmfnpolgaaGreat.rdx k a≠0):Par (Go.Proofs.YtckhbnmfnpolgaaGreat.ctr k a) (Go.Proofs.YtckhbnmfnpolgaaGreat.ctr k b):=by
 have d:=Uk f;rcases d with⟨rfl,c⟩ |⟨rfl,c⟩ |⟨rfl,c⟩ |⟨rfl,c⟩ |⟨rfl,c⟩ |⟨rfl,c⟩
 · rw[iq,iq]
   exact(h.kd 1).sbs 0 0 (jN _) (jN _) (((h.kd 0).kids_of (by omega)).2.kd 1)
 · rw[nq c,nq (by rw[((h.kd 3).kids_of (by omega)).1];exact c)]
   exact h.kd 1
 · rw[Oq c,Oq (by rw[((h.kd 3).kids_of (by omega)).1];exact c)]
   have e:=((h.kd 3).kids_of (by omega)).2.kd 0;exact .node (.cons (.node (.cons (h.kd 2) (.cons e .nil))) (.cons (.node (.cons (h.kd 0) (.cons (h.kd 1) (.cons (h.kd 2) (.cons e .nil))))) .nil))
 · exact h.kd 2
 · rw[Dq,Dq]
   exact((h.kd 0).kids_of (by omega)).2.kd 1
 · rw[qr,qr]
   exact((h.kd 0).kids_of (by omega)).2.kd 2
mutual
def g8:Tr->Tr
 | .mk k n a=> if rdx k a≠0 then ctr k (rg a) else .mk k n (rg a)
def rg:List Tr->List Tr
 | []=> []
 |t::ts=> g8 t::rg ts
end
theorem Tj(k n:Int)(a:List Tr):g8 (.mk k n a)=if rdx k a≠0 then ctr k (rg a) else .mk k n (rg a):=by
 conv=> lhs;unfold g8
mutual
theorem Par.tri: ∀{t c:Tr},Par t c->Par c (g8 t)
 |_,_,.node (k:=k) (n:=n) (ks:=ks) h=> by
  have b:=h.tri;rw[Tj];by_cases a:rdx k ks≠0
  · rw[if_pos a]
    exact .red (by rw[h.rdx a];exact a) b
  · rw[if_neg a]
    exact .node b
 |_,_,.red (k:=k) (n:=n) (ks:=ks) a h=> by
  have b:=h.tri;rw[Tj,if_pos a];exact b.ctr (by rw[h.rdx a];exact a)
theorem d5.tri: ∀{ts a:List Tr},d5 ts a->d5 a (rg ts)
 |_,_,.nil=> .nil
 |_,_,.cons h hs=> .cons h.tri hs.tri
end
inductive m7:Tr->Tr->Prop where
 |refl (t:Tr):m7 t t
 |step {a b c:Tr}:m7 a b->Par b c->m7 a c
theorem m7.trans{a b c:Tr}(h:m7 a b)(k:m7 b c):m7 a c:=by
 induction k with
 |refl=> exact h
 |step _ p ih=> exact .step ih p
theorem m7.one{a b:Tr}(h:Par a b):m7 a b:= .step (.refl a) h
theorem m7.strip{a b:Tr}(h:m7 a b): ∀{c:Tr},Par a c-> ∃d,Par b d/\m7 c d:=by
 induction h with
 |refl=> exact fun{c} p=>⟨c,p,.refl c⟩
 |step _ p ih=>
  intro c q;obtain⟨d,e,f⟩:=ih q;exact⟨_,p.tri,.step f e.tri⟩
theorem m7.meet{a b:Tr}(h:m7 a b): ∀{c:Tr},m7 a c-> ∃d,m7 b d/\m7 c d:=by
 induction h with
 |refl=> exact fun{c} p=>⟨c,p,.refl c⟩
 |step _ p ih=>
  intro c q;obtain⟨d,g,i⟩:=ih q;obtain⟨e,j,f⟩:=g.strip p;exact⟨e,f,.step i j⟩
mutual
def Wk:Tr->Bool
 | .mk k _ a=> decide (rdx k a=0)&& ff a
def ff:List Tr->Bool
 | []=> true
 |t::ts=> Wk t && ff ts
end
mutual
theorem Par.normal: ∀{t a:Tr},Par t a->Wk t=true->a=t
 |_,_,.node (k:=k) (n:=n) (ks:=ks) h,hn=> by
  simp only[Wk,aW] at hn;rw[d5.normal h hn.2]
 |_,_,.red b _,hn=> by
  simp only[Wk,aW,decide_eq_true_eq] at hn;exact absurd hn.1 b
theorem d5.normal: ∀{ts a:List Tr},d5 ts a->ff ts=true->a=ts
 |_,_,.nil,_=> rfl
 |_,_,.cons h hs,hn=> by
  simp only[ff,aW] at hn;rw[Par.normal h hn.1,d5.normal hs hn.2]
end
theorem m7.normal{a b:Tr}(h:m7 a b)(hn:Wk a=true):b=a:=by
 induction h with
 |refl=> rfl
 |step _ p ih=> subst ih;exact p.normal hn
theorem m7.unique{a b c:Tr}(h:m7 a b)(k:m7 a c)(f:Wk b=true)(hc:Wk c=true):b=c:=by
 obtain⟨d,e,g⟩:=h.meet k;rw[<-e.normal f,<-g.normal hc]
def yk(w:aK)(S:Nat->Prop)(u:aS)(p:List Int):Prop:=
 (u= .slice none 0 0/\p= [])\/ ∃b o c,u= .slice (some ⟨b,o,none⟩) p.length c/\p.length<=c/\c<=maxLen/\S b/\ ∀j (h:j < p.length),w.cell? ⟨b,o+j,none⟩=some (.int .i64 p[j])
theorem yk.mono{w w':aK}{S S':Nat->Prop}{u:aS}{p:List Int}(hS: ∀b,S b->S' b)(k: ∀b,S b->w'.heap[b]? =w.heap[b]?)(h:yk w S u p):yk w' S' u p:=by
 rcases h with h|⟨b,o,c,rfl,f,i,d,g⟩
 · exact .inl h
 · exact .inr ⟨b,o,c,rfl,f,i,hS b d,fun j e=>(World.cell?_of_block (w:=w) (a:=⟨b,o+j,none⟩) (k b d)).trans (g j e)⟩
theorem yk.slice{w:aK}{S:Nat->Prop}{u:aS}{p:List Int}(h:yk w S u p)(hS: ∀b,S b->b < w.heap.size): ∃A c,u= .slice A p.length c/\p.length<=c/\c<=maxLen/\Qa w A p:=by
 rcases h with⟨rfl,rfl⟩ |⟨b,o,c,rfl,d,e,f,a⟩
 · exact⟨none,0,rfl,aM _,bT _,.inl rfl⟩
 · exact⟨_,c,rfl,d,e,.inr ⟨b,o,rfl,hS b f,a⟩⟩
theorem GF{w:aK}{base:Nat}{e:aY}{v:aS}{p:List Int}(h:w.ownsRow base e 1 v p.length (p.map (eK .i64))):yk w (fun b=> base<=b/\b < w.heap.size/\v.ownBlock=some b) v p:=by
 have l:=fun g a=> h.cells (g:=g) a
 rcases h.2 with⟨rfl,f⟩ |⟨g,c,i,rfl,m,a,hn,hm,k,ht⟩
 · exact .inl ⟨rfl,aZ f⟩
 · refine .inr ⟨g,0,c,rfl,hn,hm,⟨m,O1 a,rfl⟩,fun j d=> ?_⟩
   have:=l g rfl j (.int .i64 p[j]) (by rw[iT,bV d];rfl)
   rwa [Addr.add_lit] at this
def te(w:aK)(S:Nat->Prop)(a:List aS)(ps:List (List Int)):Prop:=a.length=ps.length/\ ∀(j:Nat) (u:aS) (p:List Int),a[j]? =some u->ps[j]? =some p->yk w S u p
theorem te.mono{w w':aK}{S S':Nat->Prop}{a:List aS}{ps:List (List Int)}(hS: ∀b,S b->S' b)(d: ∀b,S b->w'.heap[b]? =w.heap[b]?)(h:te w S a ps):te w' S' a ps:=
 ⟨h.1,fun j u p c e=>(h.2 j u p c e).mono hS d⟩
theorem te.append{w:aK}{S:Nat->Prop}{a e:List aS}{ps d:List (List Int)}(h:te w S a ps)(k:te w S e d):te w S (a++e) (ps++d):=by
 refine⟨by simp[h.1,k.1],fun j u p b c=> ?_⟩;by_cases f:j < a.length
 · rw[List.getElem?_append_left f] at b
   rw[List.getElem?_append_left (by have:=h.1;omega)] at c;exact h.2 j u p b c
 · rw[eR (by omega)] at b
   rw[eR (by have:=h.1;omega)] at c;exact k.2 (j - a.length) u p b (by rw[h.1];exact c)
def ji(W w:aK)(e:aY)(v:aS)(ps:List (List Int)):Prop:=
 ∃a,w.ownsRow W.heap.size e 1 v ps.length a/\te w (fun b=> W.heap.size<=b/\b < w.heap.size/\v.ownBlock≠some b) a ps
theorem ji.nil(W w:aK)(e:aY):ji W w e (.slice none 0 0) []:=⟨[],World.ownsRow_nil _ _ _ _,rfl,fun j u p h=> by simp at h⟩
theorem KI{w d:aK}{base c:Nat}{e:aY}{v:aS}{n:Nat}{b:List aS}(h:w.ownsRow base e c v n b)(i: ∀g,v.ownBlock=some g->d.heap[g]? =w.heap[g]?):d.ownsRow base e c v n b:=by
 refine⟨h.1, ?_⟩;rcases h.2 with h|⟨g,cap,a,rfl,f,j,r⟩
 · exact .inl h
 · exact .inr ⟨g,cap,a,rfl,f,(i g rfl).trans j,r⟩
theorem ji.same{W w d:aK}{e:aY}{v:aS}{ps:List (List Int)}(h:ji W w e v ps)(hs:w.heap.size<=d.heap.size)(i: ∀b,W.heap.size<=b->b < w.heap.size->d.heap[b]? =w.heap[b]?):ji W d e v ps:=by
 obtain⟨j,c,k⟩:=h;exact⟨j,KI c (fun g f=> i g (c.lt g f).1 (c.lt g f).2),k.mono (fun b a=>⟨a.1,Nat.lt_of_lt_of_le a.2.1 hs,a.2.2⟩) (fun b a=> i b a.1 a.2.1)⟩
theorem ji.since{W d w:aK}{e:aY}{v:aS}{ps:List (List Int)}(h:ji W w e v ps)(hs:d.heap.size<=W.heap.size):ji d w e v ps:=by
 obtain⟨i,a,j⟩:=h;refine⟨i,⟨a.1, ?_⟩,j.mono (fun b f=>⟨bK hs f.1,f.2⟩) (fun _ _=> rfl)⟩;rcases a.2 with h|⟨g,cap,c,rfl,a,r⟩
 · exact .inl h
 · exact .inr ⟨g,cap,c,rfl,bK hs a,r⟩
theorem ji.lt{W w:aK}{e:aY}{v:aS}{ps:List (List Int)}(h:ji W w e v ps){g:Nat}(a:v.ownBlock=some g):W.heap.size<=g/\g < w.heap.size:=by
 obtain⟨c,b,d⟩:=h;exact b.lt g a
theorem ji.slice{W w:aK}{e:aY}{v:aS}{ps:List (List Int)}(h:ji W w e v ps): ∃A cap,v= .slice A ps.length cap/\ps.length<=cap/\cap<=maxLen/\(ps= []\/ ∃b,A=some ⟨b,0,none⟩)/\ ∀j (d:j < ps.length),∃b u,A=some ⟨b,0,none⟩/\w.cell? ⟨b,j,none⟩=some u/\yk w (fun b=> W.heap.size<=b/\b < w.heap.size/\v.ownBlock≠some b) u ps[j]:=by
 obtain⟨i,k,m⟩:=h;have q:=fun g l=> k.cells (g:=g) l
 rcases k.2 with⟨rfl,f⟩ |⟨g,c,o,rfl,r,l,hn,hm,p,ht⟩
 · refine⟨none,0,by rw[f],by omega,bT _,.inl (aZ f),fun j d=> by omega⟩
 · refine⟨_,c,rfl,hn,hm,.inr ⟨g,rfl⟩,fun j d=> ?_⟩
   have a:j < i.length:=by rw[m.1];exact d
   have n:=q g rfl j i[j] (bV a);rw[Addr.add_lit,eV] at n;exact⟨g,_,rfl,n,m.2 j _ _ (bV a) (bV d)⟩
theorem fH{P:Program}(w:aK){o:Oper}{a:Act}{K:Act->aK->Prop}{Q:Exit->Act->aK->Prop}(s x:Operand)(t:aY)
 (A:o.op= .call {callee:= .builtin .append,args:=#[s,x],argTypes:=#[t,t]})
 (base:Nat) (e:aY) (i:TypeInfo) (z:aS) (bytes:Nat) (ht:P.underlying t=some (.slice e)) (hi:P.info? e=some i) (B:i.zero=some z) (f:i.size=1) (q:i.bytes=bytes) (L:bytes<=64) (m:z.cells.size=1)
 {v u:aS} {ns p:List Int} {S:Nat->Prop} (hs:a.eval s=v) (hG:w.ownsRow base e 1 v ns.length (ns.map (eK .i64))) (H:base<=w.heap.size)
 (hx:a.eval x=u) (D:yk w S u p) (hn:ns.length+p.length < 1099511627776)
 (h: ∀k l,l.ownsRow base e 1 k (ns++p).length ((ns++p).map (eK .i64))->w.grownBy l v.ownBlock->(∀g,k.ownBlock=some g->v.ownBlock=some g\/w.heap.size<=g)->K (a.put o.dst k) l):o.wp P a w K Q:=by
 rcases D with⟨rfl,rfl⟩ |⟨b,G,c,rfl,N,O,R,E⟩
 · have hr:=run_append_owned_none (P:=P) (w:=w) base t o.type e i 1 ht hi v ns.length _ hG
   unfold Oper.wp execOp;simp only[A,resolve,invoke,builtin,Sem.run_bind,Sem.run_pure,Result.andThen_ok,fX,List.map_cons,List.map_nil,hs,hx,hr];exact(h v w (by simpa using hG) ⟨rfl,rfl,rfl,aM _,fun _ _ _=> rfl⟩ (fun g F=> .inl F))
 · have J:(ns.length+p.length)*bytes<=140737488355328:=bK (Nat.mul_le_mul (show ns.length+p.length<=1099511627776 by omega) L) (by decide)
   obtain⟨k,l,hr,C,I,M⟩:=Mn (P:=P) w base t o.type e i z 1 bytes ht hi B f q m (by decide) v ns.length _ hG ⟨b,G,none⟩ p.length c (p.map (eK .i64)) (by simp)
    (fun j y d=> by
     rw[Addr.add_lit];rw[iT] at d;by_cases r:j < p.length
     · rw[bV r] at d
       rw[E j r];exact d
     · rw[jU (by omega)] at d
       cases d)
    (fun y d=> by obtain⟨n,_,rfl⟩:=List.mem_map.1 d;rfl) (by unfold maxLen;omega) J H
   unfold Oper.wp execOp;simp only[A,resolve,invoke,builtin,Sem.run_bind,Sem.run_pure,Result.andThen_ok,fX,List.map_cons,List.map_nil,hs,hx,hr];exact(h k l (by simpa using C) I M)
theorem mw{P:Program}(w:aK){ops:Array Oper}{rest:List Oper}{o:Oper}{a:Act}{Q:Exit->Act->aK->Prop}(f:o.guard=none)(s x:Operand)(t:aY)
 (q:o.op= .call {callee:= .builtin .append,args:=#[s,x],argTypes:=#[t,t]})
 (base:Nat) (e:aY) (i:TypeInfo) (z:aS) (bytes:Nat) (ht:P.underlying t=some (.slice e)) (hi:P.info? e=some i) (l:i.zero=some z) (b:i.size=1) (k:i.bytes=bytes) (B:bytes<=64) (j:z.cells.size=1)
 {v u:aS} {ns p:List Int} {S:Nat->Prop} (hs:a.eval s=v) (hG:w.ownsRow base e 1 v ns.length (ns.map (eK .i64))) (r:base<=w.heap.size)
 (hx:a.eval x=u) (n:yk w S u p) (hn:ns.length+p.length < 1099511627776)
 (h: ∀c d,d.ownsRow base e 1 c (ns++p).length ((ns++p).map (eK .i64))->w.grownBy d v.ownBlock->(∀g,c.ownBlock=some g->v.ownBlock=some g\/w.heap.size<=g)->wpList P ops Q rest (a.put o.dst c) d):wpList P ops Q (o::rest) a w:=
 wpList_plain f fun K hK=> fH w s x t q base e i z bytes ht hi l b k B j hs hG r hx n hn (fun c d m y A=> hK _ _ (h c d m y A))
end Go.Proofs.YtckhbnmfnpolgaaGreat
namespace Go.Proofs.YtckhbnmfnpolgaaGreat
open Go.RowKit
attribute [local go_sem ↓] Go.wp_at_zero Go.wp_at_succ
def Vw(t:aY)(s:Nat):Op:=Op.load t (.tmp s)
attribute [local go_sem] Vw
theorem Bo:(prog.info? 25).map (fun i=>(i.zero,i.size,i.bytes))=some (some (.agg #[.int .i64 0,.int .i64 0,.slice none 0 0]),3,40):=by kernel_rfl
theorem fD(y:Int): ∀{k:Int} {ts:List Tr} {i j:Nat} {c:Int} (h:j < ts.length),(n8 y k ts i c)[j]'(by rw[LA];exact h)=shfT y ts[j] (c+E4 k (i+j))
 |k,t::ts,i,0,c,h=> by simp[n8]
 |k,t::ts,i,j+1,c,h=> by
  simp only[n8,List.getElem_cons_succ];rw[fD y (j:=j) (by simpa using h),show i+1+j=i+(j+1) by omega]
theorem q24.lt{w:aK}{b o j:Nat}{c:List Tr}(h:q24 w (some ⟨b,o,none⟩) c)(a:j < c.length):b < w.heap.size:=by
 rcases h with h|⟨f,g,e,d,-⟩
 · rw[h] at a;simp at a
 · cases e;exact d
theorem vD{l:List Tr}{j:Nat}{t:Tr}(h:j < l.length)(e:l[j]=t):l.take j++ [t]=l.take (j+1):=by rw[<-e];exact List.take_append_getElem h
def AG(t:Tr):Prop:= ∀(w:aK) (v:aS) (y c d:Int),D0 m0 t d=true->Lies w t v->cnt t<=1000->0<=y->y<=1000000->0<=c->c+cnt t<=1000000->
 Calls prog 104 #[v,.int .i64 y,.int .i64 c] w fun e a=> ∃u,e= .returned u/\P0 w a 25 (shfT y t c) u/\Ext w a
theorem kC: ∀t:Tr,AG t:=Tr.ind fun k n f hk=> by
 intro w v y c d hsh b8 O8 hy0 hy1 hc0 hc1;obtain⟨-,M4,P4,hsk⟩:=Z4 hsh;have U7:=Bk k;obtain⟨A,cap,rfl,hl,hc,hK⟩:=Lies.mk_iff.1 b8;obtain⟨i0,hi,hz0,X,U⟩:=info_parts Bo;have I:=hc;unfold maxLen at I;simp only[cnt] at O8 hc1;have hlc:=kf f;obtain⟨Q,d1⟩: ∃Q,(k==1)=Q:=⟨_,rfl⟩;obtain⟨S,d2⟩: ∃S,decide (c<=n)=S:=⟨_,rfl⟩;obtain⟨r,F⟩: ∃r,r=if(Q && S)=true then n+y else n:=⟨_,rfl⟩
 obtain⟨g,M⟩: ∃g,g=n8 y k f 0 c:=⟨_,rfl⟩;have x:shfT y (.mk k n f) c= .mk k r g:=by
  rw[F,M,<-d1,<-d2]
  conv=> lhs;unfold shfT
  simp
 have nk:g.length=f.length:=by rw[M,LA]
 have R7: ∀j (h:j < f.length),g[j]'(by omega)=shfT y f[j] (c+E4 k j):=fun j h=> by
  subst M;rw[fD y h,eV]
 rw[x];have U5:=hdq R7;clear x M R7;cases Q with
 |true=>
  obtain rfl:k=1:=by simpa using d1
  obtain⟨rfl,-,-⟩:=RB hsh;obtain rfl:g= []:=aZ (by simpa using nk);cases S
  all_goals simp only[Bool.and_true,Bool.and_false,if_true,jP,if_false] at F
  all_goals go_enter func104,ntmps104
  all_goals go_wp2_with fail
  all_goals refine wp_loop_rounds 1 ?_
  all_goals rw[rounds_succ]
  all_goals go_wp2_with fail
  all_goals exact bodyPost_ret (v:= .agg #[.int .i64 1,.int .i64 r,.slice none 0 0]) (by simp[results,results104,go_sem,F]) rfl ⟨_,rfl,P0.leaf _ _ _ _ _,(((xr w).alloc _).alloc _).alloc _⟩
 |false=>
  simp only[Bool.false_and,jP,if_false] at F;go_enter func104,ntmps104;go_wp2_with fail;obtain⟨m,E⟩: ∃m,m=(w.alloc (.cells #[.int .i64 k,.int .i64 n,.slice A f.length cap] 25)).alloc (.cells #[.int .i64 0,.int .i64 0,.slice none 0 0] 25):=⟨_,rfl⟩;obtain⟨W,D⟩: ∃W,W=m.alloc (.cells #[.int .i64 k,.int .i64 r,.slice none 0 0] 25):=⟨_,rfl⟩;have Y:m.heap.size=w.heap.size+1+1:=by rw[E];simp
  have ju:W.heap.size=w.heap.size+3:=by rw[D];simp;omega
  have B7:Ext w m:=E▸((xr w).alloc _).alloc _;have Z8:Ext m W:=D▸(xr m).alloc _;have E1:m.heap[w.heap.size+1]? =some (.cells #[.int .i64 0,.int .i64 0,.slice none 0 0] 25 (0,0)):=by
   rw[E];exact(W3 (xr _)).2.1
  have cg:W.heap[w.heap.size+1+1]? =some (.cells #[.int .i64 k,.int .i64 r,.slice none 0 0] 25 (0,0)):=by
   have:=heap_alloc_new m (.cells #[.int .i64 k,.int .i64 r,.slice none 0 0] 25);rw[Y] at this;rw[D];exact this
  have P9:m.heap[w.heap.size]? =some (.cells #[.int .i64 k,.int .i64 n,.slice A f.length cap] 25 (0,0)):=by
   rw[E];exact(W3 (xr _)).1
  rw[F] at D;rw[<-E,<-D];clear D E
  go_loopw [8] (fun i wr=> ∃(j:Nat) (v:aS),j<=f.length/\i= .int .i64 j/\wr.heap[w.heap.size+1+1]? =some (.cells #[.int .i64 k,.int .i64 r,v] 25 (0,0))/\N4 W wr 25 v (g.take j)/\Ext m wr/\W.heap.size<=wr.heap.size) (fun i _=> f.length -(intOf i).toNat)
  case atStart=> exact⟨0,_,bT _,rfl,cg,N4.nil _ _ _,Z8,aM _⟩
  case round=>
   obtain⟨j,v,hj,rfl,O,hG,z,J⟩:=hrel;by_cases B:j < f.length
   · obtain⟨b,o,k',n',A',s,kids,rfl,HK,c0,c1,c2,G7,G0,hK',u6,Z⟩:=hK.get (B7.trans z) B
     have N:=vD (l:=g) (j:=j) (by omega) (U5.out j B);rw[HK.out] at N;have wj:=Xp k j;have ap:=hsk _ Z;have oy:(j:Int) <(f.length:Int):=by omega
     obtain⟨uu,hu⟩: ∃u,u=E4 k j:=⟨_,rfl⟩;have HU:=hdq (fun W=> Fz k j W);rw[<-hu] at HU wj N;have gj:=hdq N;have pk:=hdq (IntWalk.i64_in (c+uu) ⟨by omega,by omega⟩);clear hu N;have hcm:=L9 Z;have K:(g.take j).length < 1099511627776:=by rw[cU];omega
     have R8:(g.take j).length=j:=by rw[cU];omega
     have HL:=hdq R8;have J9:=z.blk P9;obtain⟨t0,-,t2,-,-,-⟩:=own3 J9;have hj':(j:Int) <(f.length:Int):=by omega
     go_wp2_with fail;have I6:=J;have G5:=hG;have M7:=O;have hv:=i1 M7 2;have p8: ∀a,Below W.heap.size wr a->a.heap[w.heap.size+1+1]? =some (.cells #[.int .i64 k,.int .i64 r,v] 25 (0,0)):=fun a hB=>(hB.block (w.heap.size+1+1) (by omega)).trans M7
     have H:=hdq p8;have R:Ext wr wr.drew:=(xr wr).drew;have R6:=u6.ext R;have bm:=z;have Cy:=hK.lt B;have L:=hdq (show∀a,Below (w.heap.size+1) wr a->a.cell? ⟨w.heap.size,0,none⟩=some (.int .i64 k)/\a.cell? ⟨w.heap.size,2,none⟩=some (.slice (some ⟨b,o,none⟩) f.length cap)/\a.cell? ⟨b,o+j*3,none⟩=some (.int .i64 k')/\a.cell? ⟨b,o+j*3+1,none⟩=some (.int .i64 n')/\a.cell? ⟨b,o+j*3+2,none⟩=some (.slice A' kids.length s) from fun a q=>
      ⟨(q.cell (p:=⟨w.heap.size,0,none⟩) (by show w.heap.size < _;omega)).trans t0,(q.cell (p:=⟨w.heap.size,2,none⟩) (by show w.heap.size < _;omega)).trans t2,(q.cell (p:=⟨b,o+j*3,none⟩) (by show b < _;omega)).trans c0,(q.cell (p:=⟨b,o+j*3+1,none⟩) (by show b < _;omega)).trans c1,(q.cell (p:=⟨b,o+j*3+2,none⟩) (by show b < _;omega)).trans c2⟩)
     have Hv:Below (w.heap.size+1) wr wr.drew:=(Below.refl _ _).drew;clear p8 R8 O hG z J I;rw[show Op.load 23 (Operand.tmp 35)=Vw 23 35 from rfl]
     go_region_held_law (fun a=> a.cell? ⟨w.heap.size,0,none⟩=some (.int .i64 k)/\a.cell? ⟨w.heap.size,2,none⟩=some (.slice (some ⟨b,o,none⟩) f.length cap)/\a.cell? ⟨b,o+j*3,none⟩=some (.int .i64 k')/\a.cell? ⟨b,o+j*3+1,none⟩=some (.int .i64 n')/\a.cell? ⟨b,o+j*3+2,none⟩=some (.slice A' kids.length s))
      (first|exact L.out _ ((yu.setCell (by show _<=w.heap.size+1+1;omega) _)) |exact L.out _ yu|exact L.out _ (uf.alloc (by omega) _) |exact L.out _ uf|exact L.out _ Hv)
      (first|(go_simp;go_at_call 127;refine(HU.out _).mono ?_;rintro e wu ⟨rfl,rfl⟩) |(go_simp;go_at_call 104;(try rw[pk.out]);refine(hk _ Z _ _ y (c+uu) (d - 1) ap R6 (by omega) hy0 hy1 (by omega) (by omega)).mono ?_;rintro e w4 ⟨u,rfl,V,P⟩;obtain⟨a1,a2,a3,a4,a5,rfl⟩:=V.three';have G:=i1 (H.out _ ((R.trans P).below I6)) 2;have ie:=World.block_lt_of_cell? _ _ G;have uf:Below (w.heap.size+1) wr w4:=((R.trans P).below I6).mono (by omega)) |(refine Rx _ (by rfl) (.tmp 36) (.tmp 50) _ (by rfl) 25 i0 _ underlying23 hi hz0 X U rfl (by rfl) G5 I6 (R.trans P) (V.since (aM _)) ((xr _).alloc _) (by rfl) (heap_alloc_new _ _) K ?_;intro v' w5 T C;obtain⟨B5,c5,rfl,q1,q2,-⟩:=T.made;have ig:=i1 (H.out _ C) 2;have qp:=Ob (H.out _ C) 2;have yu:Below (w.heap.size+1) wr w5:=C.mono (by omega)))
     all_goals(
      have U4:Ext m w5:=bm.trans' C (by omega);have hs5:=C.size;have ae:=H.out _ C;rw[List.length_append,List.length_singleton,HL.out,gj.out] at T;have ib:=fun u=> T.after ((pa.refl W.heap.size w5).setCell (p:=⟨w.heap.size+1+1,2,none⟩) (by show w.heap.size+1+1 < W.heap.size;omega) u)
      clear G ie hv H V P c0 c1 c2 t2 t0;go_wp2_with fail
      go_roundw
      case rel=> exact⟨j+1,_,by omega,by go_num,M6 ae 2 _,ib _,U4.setCell (by show _<=w.heap.size+1+1;omega) _,by simp;omega⟩
      case measure=> simp[intOf];omega)
   · obtain⟨B5,c5,rfl,q1,q2,W5⟩:=hG.made
     have R9:j=f.length:=by omega
     have tv:g.take j=g:=List.take_of_length_le (by omega);obtain⟨r0,r1,r2,-,-,-⟩:=own3 O;have J9:=z.blk P9;obtain⟨-,-,t2,-,-,-⟩:=own3 J9;have N7:=z.blk E1;obtain⟨s0,s1,s2,f0,f1,f2⟩:=own3 N7;rw[tv] at q1 r2 W5;clear O;go_wp2_with fail;refine bodyPost_ret (v:= .agg #[.int .i64 k,.int .i64 r,.slice B5 g.length c5]) (by simp[results,results104,go_sem,s0,s1,s2,F,nk]) rfl ⟨_,rfl, ?_, ?_⟩
     · exact P0.since (P0.after (P0.mk q1 q2 W5) ((((pa.refl _ _).setCell (by show w.heap.size+1 < _;omega) _).setCell (by show w.heap.size+1 < _;omega) _).setCell (by show w.heap.size+1 < _;omega) _)) (by omega)
     · exact((((B7.trans z).setCell (by simp) _).setCell (by simp) _).setCell (by simp) _)
end Go.Proofs.YtckhbnmfnpolgaaGreat
namespace Go.Proofs.YtckhbnmfnpolgaaGreat
theorem ZD{k:Int}{n:Nat}(h:O0 k=(n:Int)):k=1\/k=2\/k=3\/k=4\/k=5\/k=6\/k=7\/k=8\/k=9\/k=10\/k=11\/k=12\/k=13\/k=14\/k=15\/k=16:=by
 by_cases hk:1<=k/\k<=16
 · omega
 · exfalso
   unfold O0 at h
   repeat rw[if_neg (by omega)] at h
   omega
end Go.Proofs.YtckhbnmfnpolgaaGreat
namespace Go.Proofs.YtckhbnmfnpolgaaGreat
open Go.RowKit
theorem InK.bound{w:aK}{S:Nat->Prop}{A:Option Addr}{a:List Tr}(h:InK w S A a):InK w (fun b=> S b/\b < w.heap.size) A a:=by
 rcases h with h|⟨b,o,rfl,d,hl⟩
 · exact .inl h
 · cases a with
   |nil=> exact .inl rfl
   |cons t ts=>
    refine .inr ⟨b,o,rfl,⟨d, ?_⟩,O4.bound hl⟩;unfold O4 at hl;obtain⟨⟨v0,v1,v2,c,-⟩,-⟩:=hl;exact World.block_lt_of_cell? _ _ c
theorem InT.keep{w W:aK}{N:Nat->Prop}{t:Tr}{v:aS}{g:Nat}(h:InT w N t v)(c:Ext w W)(d:w.heap.size<=g):InT W (fun b=> N b/\b≠g) t v:=
 InT.mono (fun b a=>⟨a.1,by omega⟩) (fun b a=> c.heap b a.2) h.bound
theorem InK.keep{w W:aK}{N:Nat->Prop}{A:Option Addr}{c:List Tr}{g:Nat}(h:InK w N A c)(d:Ext w W)(e:w.heap.size<=g):InK W (fun b=> N b/\b≠g) A c:=
 InK.mono (fun b a=>⟨a.1,by omega⟩) (fun b a=> d.heap b a.2) h.bound
theorem InK.later{w c:aK}{S:Nat->Prop}{A:Option Addr}{d:List Tr}(h:InK w S A d)(e:Ext w c):InK c S A d:=
 InK.mono (fun _ a=> a.1) (fun b a=> e.heap b a.2) h.bound
theorem InT.lies'{w:aK}{N:Nat->Prop}{t:Tr}{v:aS}(h:InT w N t v):Lies w t v:=InT.mono (fun b a=> a.2) (fun _ _=> rfl) h.bound
theorem InT.ret{W:aK}{N:Nat->Prop}{t:Tr}{v:aS}{g:Nat}(h:InT W (fun b=> N b/\b≠g) t v)(x y z:aS):InT (((W.setCell ⟨g,0,none⟩ x).setCell ⟨g,1,none⟩ y).setCell ⟨g,2,none⟩ z) N t v:=
 InT.mono (fun b a=> a.1) (fun b a=> by rw[Below.heap_setCell _ _ _ _ a.2,Below.heap_setCell _ _ _ _ a.2,Below.heap_setCell _ _ _ _ a.2]) h
theorem F5(W:aK)(N:Nat->Prop)(k n:Int):InT W N (.mk k n []) (.agg #[.int .i64 k,.int .i64 n,.slice none 0 0]):=InT.mk_iff.2 ⟨none,0,rfl,aM _,bT _,.inl rfl⟩
theorem P0.at'{w a:aK}{N:Nat->Prop}{e:aY}{t:Tr}{v:aS}(h:P0 w a e t v)(hN: ∀b,w.heap.size<=b->N b):InT a N t v:=InT.mono (fun b c=> hN b c.1) (fun _ _=> rfl) (j2.made h)
theorem Oa{w:aK}{N:Nat->Prop}{g n:Nat}(hN: ∀b,w.heap.size<=b->N b)(d:w.heap.size<=n)(a:g < n): ∀b,n<=b->N b/\b≠g:=fun b c=>⟨hN b (by omega),by omega⟩
def N9(N:Nat->Prop)(w:aK)(r:Tr×Int)(e:Ending)(a:aK):Prop:= ∃u,e= .returned (.tuple #[u,.int .i64 r.2])/\InT a N r.1 u/\Ext w a
