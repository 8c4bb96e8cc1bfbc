/-
  Lemmas towards the law, 11: Par, Paths, Subst, ReadP, Keep.
-/
import Derived.Test.YtckhbnmfnpolgaaGreatC00
import Derived.Test.YtckhbnmfnpolgaaGreatCAJ
import Derived.Deep.RegionHeldLaw
import Derived.Lib.AtoiAll
import Derived.Lib.Strings
open Int renaming le_refl->jZ,add_zero->eO
open List renaming getElem?_eq_none->kN,eq_nil_of_length_eq_zero->bO,getElem?_map->jQ,getElem?_eq_getElem->bZ,getElem?_append_right->eY,map_toArray->gO,length_take->dM
open Nat renaming zero_add->fN,le_refl->aN,zero_le->bV,le_trans->bL
open Bool renaming and_eq_true->aW,false_eq_true->kL
open Go renaming World->aL,Value->aT,TypeId->aZ
open Go.Value renaming int->eU
open Go.Proofs.Tryz
set_option linter.all false
set_option maxHeartbeats 2000000
set_option maxRecDepth 100000
namespace Go.Proofs.YtckhbnmfnpolgaaGreat
open Go.RowKit
theorem Jd(y:Int)(k n:Int)(a:List Tr)(c:Int):shfT y (.mk k n a) c= .mk k (if k=1/\c<=n then n+y else n) (Y7 y k a 0 c):=by
 conv=> lhs;unfold shfT
theorem pD(u:Tr)(k n:Int)(a:List Tr)(x d:Int):Z0 u (.mk k n a) x d=if k=1/\n=x then shfT d u 0 else .mk k (if k=1/\x < n then n - 1 else n) (n8 u k a 0 x d):=by
 conv=> lhs;unfold Z0
theorem Nl(u:Tr){k n:Int}(a:List Tr){x d:Int}(h:k=1/\n=x):Z0 u (.mk k n a) x d=shfT d u 0:=by rw[pD,if_pos h]
theorem Xc(u:Tr){k n:Int}(a:List Tr){x d:Int}(h: ¬(k=1/\n=x)):Z0 u (.mk k n a) x d= .mk k (if k=1/\x < n then n - 1 else n) (n8 u k a 0 x d):=by rw[pD,if_neg h]
mutual
theorem CA(a b:Int)(j:0<=b): ∀(t:Tr) (c d:Int),c<=d->d<=c+b->shfT a (shfT b t c) d=shfT (b+a) t c
 | .mk k n i,c,d,f,g=> by
  rw[Jd,Jd,Jd,bD a b j k i 0 c d f g]
  congr 1
  by_cases hk:k=1
  · subst hk
    by_cases e:c<=n
    · rw[if_pos (show(1:Int)=1/\c<=n from⟨rfl,e⟩),if_pos (show(1:Int)=1/\c<=n from⟨rfl,e⟩),if_pos ⟨rfl,by omega⟩];omega
    · rw[if_neg (show¬((1:Int)=1/\c<=n) from fun h=> e h.2),if_neg (show¬((1:Int)=1/\c<=n) from fun h=> e h.2),if_neg (fun h=> by omega)]
  · rw[if_neg (fun h=> hk h.1),if_neg (fun h=> hk h.1),if_neg (fun h=> hk h.1)]
theorem bD(a b:Int)(e:0<=b): ∀(k:Int) (ts:List Tr) (i:Nat) (c d:Int),c<=d->d<=c+b->Y7 a k (Y7 b k ts i c) i d=Y7 (b+a) k ts i c
 |_, [],_,_,_,_,_=> rfl
 |k,t::ts,i,c,d,f,g=> by
  simp only[Y7];rw[CA a b e t _ _ (by omega) (by omega),bD a b e k ts (i+1) c d f g]
end
mutual
theorem nD(a b:Int)(i:0<=a)(j:0<=b): ∀(t:Tr) (d c:Int),d<=c->shfT a (shfT b t d) (c+b)=shfT b (shfT a t c) d
 | .mk k n l,d,c,g=> by
  rw[Jd,Jd,Jd,Jd,LD a b i j k l 0 d c g]
  congr 1
  by_cases hk:k=1
  · subst hk
    by_cases e:d<=n
    · rw[if_pos (show(1:Int)=1/\d<=n from⟨rfl,e⟩)]
      by_cases f:c<=n
      · rw[if_pos ⟨rfl,by omega⟩,if_pos (show(1:Int)=1/\c<=n from⟨rfl,f⟩),if_pos ⟨rfl,by omega⟩];omega
      · rw[if_neg (fun h=> by omega),if_neg (show¬((1:Int)=1/\c<=n) from fun h=> f h.2),if_pos ⟨rfl,e⟩]
    · rw[if_neg (show¬((1:Int)=1/\d<=n) from fun h=> e h.2),if_neg (fun h=> by omega),if_neg (show¬((1:Int)=1/\c<=n) from fun h=> by omega),if_neg (fun h=> by omega)]
  · rw[if_neg (fun h=> hk h.1),if_neg (fun h=> hk h.1),if_neg (fun h=> hk h.1),if_neg (fun h=> hk h.1)]
theorem LD(a b:Int)(e:0<=a)(f:0<=b): ∀(k:Int) (ts:List Tr) (i:Nat) (d c:Int),d<=c->Y7 a k (Y7 b k ts i d) i (c+b)=Y7 b k (Y7 a k ts i c) i d
 |_, [],_,_,_,_=> rfl
 |k,t::ts,i,d,c,g=> by
  simp only[Y7];rw[show c+b+E4 k i=c+E4 k i+b by omega,nD a b e f t _ _ (by omega),LD a b e f k ts (i+1) d c g]
end
mutual
theorem LB(u:Tr)(y:Int)(j:0<=y): ∀(t:Tr) (x d c:Int),0<=c->c<=x->c<=d->shfT y (Z0 u t x d) c=Z0 u (shfT y t c) (x+y) (d+y)
 | .mk k n b,x,d,c,g,i,l=> by
  by_cases hv:k=1/\n=x
  · obtain⟨rfl,rfl⟩:=hv
    rw[Nl u b ⟨rfl,rfl⟩,Jd,if_pos (show(1:Int)=1/\c<=n from⟨rfl,i⟩),Nl u _ ⟨rfl,rfl⟩];exact CA y d (by omega) u 0 c g (by omega)
  · rw[Xc u b hv,Jd,Jd]
    have e: ¬(k=1/\(if k=1/\c<=n then n+y else n)=x+y):=by
     rintro⟨rfl,h⟩;by_cases a:c<=n
     · rw[if_pos ⟨rfl,a⟩] at h;exact hv ⟨rfl,by omega⟩
     · rw[if_neg (fun h=> a h.2)] at h;omega
    rw[Xc u _ e,TJ u y j k b 0 x d c g i l]
    congr 1
    by_cases hk:k=1
    · subst hk
      simp only[true_and];have hn:n≠x:=fun h=> hv ⟨rfl,h⟩
      by_cases a:x < n
      · rw[if_pos a,if_pos (show c<=n - 1 by omega),if_pos (show c<=n by omega),if_pos (by omega)];omega
      · rw[if_neg a]
        by_cases f:c<=n
        · rw[if_pos f,if_neg (by omega)]
        · rw[if_neg f,if_neg (by omega)]
    · rw[if_neg (fun h=> hk h.1),if_neg (fun h=> hk h.1),if_neg (fun h=> hk h.1),if_neg (fun h=> hk h.1)]
theorem TJ(u:Tr)(y:Int)(a:0<=y): ∀(k:Int) (ts:List Tr) (i:Nat) (x d c:Int),0<=c->c<=x->c<=d->Y7 y k (n8 u k ts i x d) i c=n8 u k (Y7 y k ts i c) i (x+y) (d+y)
 |_, [],_,_,_,_,_,_,_=> rfl
 |k,t::ts,i,x,d,c,b,f,e=> by
  have:=Vq k i;simp only[n8,Y7];rw[LB u y a t _ _ _ (by omega) (by omega) (by omega),TJ u y a k ts (i+1) x d c b f e,show x+y+E4 k i=x+E4 k i+y by omega,show d+y+E4 k i=d+E4 k i+y by omega]
end
mutual
theorem TD(u:Tr)(y c:Int)(f:0<=y)(hc:0<=c): ∀(t:Tr) (x d:Int),0<=d->x<=c+d->shfT y (Z0 u t x d) (c+d)=Z0 (shfT y u c) (shfT y t (c+d+1)) x d
 | .mk k n b,x,d,i,j=> by
  by_cases hv:k=1/\n=x
  · obtain⟨rfl,rfl⟩:=hv
    rw[Nl u b ⟨rfl,rfl⟩,Jd,if_neg (show¬((1:Int)=1/\c+d+1<=n) from fun h=> by omega),Nl _ _ ⟨rfl,rfl⟩];exact nD y d f i u 0 c hc
  · rw[Xc u b hv,Jd,Jd]
    have e: ¬(k=1/\(if k=1/\c+d+1<=n then n+y else n)=x):=by
     rintro⟨rfl,h⟩;by_cases a:c+d+1<=n
     · rw[if_pos ⟨rfl,a⟩] at h;omega
     · rw[if_neg (fun h=> a h.2)] at h;exact hv ⟨rfl,h⟩
    rw[Xc _ _ e,OJ u y c f hc k b 0 x d i j]
    congr 1
    by_cases hk:k=1
    · subst hk
      simp only[true_and];have hn:n≠x:=fun h=> hv ⟨rfl,h⟩
      by_cases a:x < n
      · rw[if_pos a]
        by_cases g:c+d<=n - 1
        · rw[if_pos g,if_pos (show c+d+1<=n by omega),if_pos (by omega)];omega
        · rw[if_neg g,if_neg (show¬c+d+1<=n by omega),if_pos a]
      · rw[if_neg a,if_neg (show¬c+d<=n by omega),if_neg (show¬c+d+1<=n by omega),if_neg a]
    · rw[if_neg (fun h=> hk h.1),if_neg (fun h=> hk h.1),if_neg (fun h=> hk h.1),if_neg (fun h=> hk h.1)]
theorem OJ(u:Tr)(y c:Int)(a:0<=y)(hc:0<=c): ∀(k:Int) (ts:List Tr) (i:Nat) (x d:Int),0<=d->x<=c+d->Y7 y k (n8 u k ts i x d) i (c+d)=n8 (shfT y u c) k (Y7 y k ts i (c+d+1)) i x d
 |_, [],_,_,_,_,_=> rfl
 |k,t::ts,i,x,d,b,e=> by
  have:=Vq k i;simp only[n8,Y7];rw[show c+d+E4 k i=c+(d+E4 k i) by omega,TD u y c a hc t _ _ (by omega) (by omega),OJ u y c a hc k ts (i+1) x d b e,show c+d+1+E4 k i=c+(d+E4 k i)+1 by omega]
end
mutual
theorem KB(u:Tr)(e:Int)(f:0<=e): ∀(t:Tr) (x d b:Int),b<=x->x<=b+e->Z0 u (shfT (e+1) t b) x d=shfT e t b
 | .mk k n i,x,d,b,c,g=> by
  rw[Jd,Jd];by_cases hk:k=1
  · subst hk
    by_cases a:b<=n
    · rw[if_pos (show(1:Int)=1/\b<=n from⟨rfl,a⟩),if_pos (show(1:Int)=1/\b<=n from⟨rfl,a⟩),Xc _ _ (fun h=> by omega),Oq u e f 1 i 0 x d b c g,if_pos ⟨rfl,by omega⟩]
      congr 1
      omega
    · rw[if_neg (show¬((1:Int)=1/\b<=n) from fun h=> a h.2),if_neg (show¬((1:Int)=1/\b<=n) from fun h=> a h.2),Xc _ _ (fun h=> by omega),Oq u e f 1 i 0 x d b c g,if_neg (fun h=> by omega)]
  · rw[if_neg (fun h=> hk h.1),if_neg (fun h=> hk h.1),Xc _ _ (fun h=> hk h.1),Oq u e f k i 0 x d b c g,if_neg (fun h=> hk h.1)]
theorem Oq(u:Tr)(e:Int)(a:0<=e): ∀(k:Int) (ts:List Tr) (i:Nat) (x d b:Int),b<=x->x<=b+e->n8 u k (Y7 (e+1) k ts i b) i x d=Y7 e k ts i b
 |_, [],_,_,_,_,_,_=> rfl
 |k,t::ts,i,x,d,b,c,f=> by
  simp only[Y7,n8];rw[KB u e a t _ _ _ (by omega) (by omega),Oq u e a k ts (i+1) x d b c f]
end
mutual
theorem DA(u a:Tr)(x d:Int)(hx:0<=x)(hd:0<=d): ∀(t:Tr) (b:Int),0<=b->Z0 u (Z0 a t b b) (x+b) (d+b)=Z0 (Z0 u a x d) (Z0 u t (x+1+b) (d+1+b)) b b
 | .mk k n c,b,j=> by
  by_cases hk:k=1
  · subst hk
    by_cases f:n=b
    · subst f
      have g:Z0 a (.mk 1 n c) n n=shfT n a 0:=Nl _ _ ⟨rfl,rfl⟩;have e:Z0 u (.mk 1 n c) (x+1+n) (d+1+n)= .mk 1 n (n8 u 1 c 0 (x+1+n) (d+1+n)):=by
       rw[Xc _ _ (fun h=> by omega),if_neg (fun h=> by omega)]
      rw[g,e,Nl _ _ ⟨rfl,rfl⟩,LB u n j a x d 0 (jZ _) hx hd]
    · by_cases o:n=x+1+b
      · have g:Z0 a (.mk 1 n c) b b= .mk 1 (n - 1) (n8 a 1 c 0 b b):=by
         rw[Xc _ _ (fun h=> f h.2),if_pos ⟨rfl,by omega⟩]
        have e:Z0 u (.mk 1 n c) (x+1+b) (d+1+b)=shfT (d+1+b) u 0:=Nl _ _ ⟨rfl,o⟩;rw[g,e,Nl _ _ ⟨rfl,by omega⟩,show d+1+b=d+b+1 by omega,KB _ (d+b) (by omega) u b b 0 j (by omega)]
      · have g:Z0 a (.mk 1 n c) b b= .mk 1 (if b < n then n - 1 else n) (n8 a 1 c 0 b b):=by
         rw[Xc _ _ (fun h=> f h.2)];simp
        have e:Z0 u (.mk 1 n c) (x+1+b) (d+1+b)= .mk 1 (if x+1+b < n then n - 1 else n) (n8 u 1 c 0 (x+1+b) (d+1+b)):=by
         rw[Xc _ _ (fun h=> o h.2)];simp
        rw[g,e];have hs:=Ow u a x d hx hd 1 c 0 b j;by_cases i:b < n
        · rw[if_pos i]
          by_cases m:x+1+b < n
          · rw[if_pos m,Xc _ _ (fun h=> by omega),Xc _ _ (fun h=> by omega),hs,if_pos ⟨rfl,by omega⟩,if_pos ⟨rfl,by omega⟩]
          · rw[if_neg m,Xc _ _ (fun h=> by omega),Xc _ _ (fun h=> f h.2),hs,if_neg (fun h=> by omega),if_pos ⟨rfl,i⟩]
        · rw[if_neg i,if_neg (show¬x+1+b < n by omega),Xc _ _ (fun h=> by omega),Xc _ _ (fun h=> f h.2),hs,if_neg (fun h=> by omega),if_neg (fun h=> i h.2)]
  · have q: ∀(v:Tr) (l:List Tr) (y z:Int),Z0 v (.mk k n l) y z= .mk k n (n8 v k l 0 y z):=fun v l y z=> by
     rw[Xc _ _ (fun h=> hk h.1),if_neg (fun h=> hk h.1)]
    rw[q,q,q,q,Ow u a x d hx hd k c 0 b j]
theorem Ow(u a:Tr)(x d:Int)(hx:0<=x)(hd:0<=d): ∀(k:Int) (ts:List Tr) (i:Nat) (b:Int),0<=b->n8 u k (n8 a k ts i b b) i (x+b) (d+b)=n8 (Z0 u a x d) k (n8 u k ts i (x+1+b) (d+1+b)) i b b
 |_, [],_,_,_=> rfl
 |k,t::ts,i,b,c=> by
  have:=Vq k i;simp only[n8];rw[show x+b+E4 k i=x+(b+E4 k i) by omega,show d+b+E4 k i=d+(b+E4 k i) by omega,DA u a x d hx hd t _ (by omega),Ow u a x d hx hd k ts (i+1) b c,show x+1+b+E4 k i=x+1+(b+E4 k i) by omega,show d+1+b+E4 k i=d+1+(b+E4 k i) by omega]
end
theorem aG(u a t:Tr){x d:Int}(hx:0<=x)(hd:0<=d):Z0 u (Z0 a t 0 0) x d=Z0 (Z0 u a x d) (Z0 u t (x+1) (d+1)) 0 0:=by
 have:=DA u a x d hx hd t 0 (jZ _)
 simpa using this
theorem TE(a t:Tr){y c:Int}(b:0<=y)(hc:0<=c):shfT y (Z0 a t 0 0) c=Z0 (shfT y a c) (shfT y t (c+1)) 0 0:=by
 have:=TD a y c b hc t 0 0 (jZ _) (by omega)
 simpa using this
def kd(a:List Tr)(i:Nat):Tr:=a.getD i j2
def rdx(k:Int)(a:List Tr):Int:=
 if k=5 then(if(kd a 0).kind=4 then 1 else 0)
 else if k=9 then(if(kd a 3).kind=7 then 2 else if(kd a 3).kind=8 then 3 else 0)
 else if k=12 then(if(kd a 1).kind=11 then 4 else 0)
 else if k=15 then(if(kd a 0).kind=14 then 5 else 0)
 else if k=16 then(if(kd a 0).kind=14 then 6 else 0)
 else 0
def ctr(k:Int)(a:List Tr):Tr:=
 if k=5 then Z0 (kd a 1) (kd (kd a 0).kids 1) 0 0
 else if k=9 then(if(kd a 3).kind=7 then kd a 1 else .mk 5 0 [.mk 5 0 [kd a 2,kd (kd a 3).kids 0],.mk 9 0 [kd a 0,kd a 1,kd a 2,kd (kd a 3).kids 0]])
 else if k=12 then kd a 2
 else if k=15 then kd (kd a 0).kids 1
 else kd (kd a 0).kids 2
def Y3:Tr->Int
 | .mk k _ a=> rdx k a
def ctrT:Tr->Tr
 | .mk k _ a=> ctr k a
theorem bo{k:Int}{e:List Tr}(h:k≠5)(c:k≠9)(b:k≠12)(a:k≠15)(d:k≠16):rdx k e=0:=by
 unfold rdx;rw[if_neg h,if_neg c,if_neg b,if_neg a,if_neg d]
mutual
inductive Par:Tr->Tr->Prop where
 |node {k n:Int} {ks ks':List Tr}:i5 ks ks'->Par (.mk k n ks) (.mk k n ks')
 |red {k n:Int} {ks ks':List Tr}:rdx k ks≠0->i5 ks ks'->Par (.mk k n ks) (ctr k ks')
inductive i5:List Tr->List Tr->Prop where
 |nil:i5 [] []
 |cons {t t':Tr} {ts dv:List Tr}:Par t t'->i5 ts dv->i5 (t::ts) (t'::dv)
end
mutual
theorem Par.refl: ∀t:Tr,Par t t
 | .mk k n a=> .node (i5.refl a)
theorem i5.refl: ∀ts:List Tr,i5 ts ts
 | []=> .nil
 |t::ts=> .cons (Par.refl t) (i5.refl ts)
end
theorem i5.kd: ∀{a b:List Tr},i5 a b-> ∀i,Par (kd a i) (kd b i)
 |_,_,.nil,i=> by simpa[Go.Proofs.YtckhbnmfnpolgaaGreat.kd] using Par.refl j2
 |_,_,.cons h _,0=> by simpa[Go.Proofs.YtckhbnmfnpolgaaGreat.kd] using h
 |_,_,.cons _ h,i+1=> by simpa[Go.Proofs.YtckhbnmfnpolgaaGreat.kd] using h.kd i
theorem Par.keep{t a:Tr}(h:Par t a)(f:t.kind≠5)(d:t.kind≠9)(e:t.kind≠12)(c:t.kind≠15)(g:t.kind≠16):a.kind=t.kind/\a.num=t.num/\i5 t.kids a.kids:=by
 cases h with
 |node h=> exact⟨rfl,rfl,h⟩
 |red b h=> exact absurd (bo f d e c g) b
theorem i5.rdx{k:Int}{a b:List Tr}(h:i5 a b)(hr:rdx k a≠0):Go.Proofs.YtckhbnmfnpolgaaGreat.rdx k b=Go.Proofs.YtckhbnmfnpolgaaGreat.rdx k a:=by
 have key: ∀i c,c=4\/c=7\/c=8\/c=11\/c=14->(Go.Proofs.YtckhbnmfnpolgaaGreat.kd a i).kind=c->(Go.Proofs.YtckhbnmfnpolgaaGreat.kd b i).kind=c:=fun i c hc n=> by
  have d:=(h.kd i).keep (by omega) (by omega) (by omega) (by omega) (by omega);rw[d.1,n]
 unfold Go.Proofs.YtckhbnmfnpolgaaGreat.rdx at hr⊢;by_cases g:k=5
 · rw[if_pos g,if_pos g]
   rw[if_pos g] at hr;by_cases d:(Go.Proofs.YtckhbnmfnpolgaaGreat.kd a 0).kind=4
   · rw[if_pos d,if_pos (key 0 4 (by omega) d)]
   · rw[if_neg d] at hr;exact absurd rfl hr
 rw[if_neg g,if_neg g];rw[if_neg g] at hr;by_cases f:k=9
 · rw[if_pos f,if_pos f]
   rw[if_pos f] at hr;by_cases d:(Go.Proofs.YtckhbnmfnpolgaaGreat.kd a 3).kind=7
   · rw[if_pos d,if_pos (key 3 7 (by omega) d)]
   · rw[if_neg d] at hr⊢
     by_cases m:(Go.Proofs.YtckhbnmfnpolgaaGreat.kd a 3).kind=8
     · have:=key 3 8 (by omega) m
       rw[if_pos m,if_neg (by omega),if_pos this]
     · rw[if_neg m] at hr;exact absurd rfl hr
 rw[if_neg f,if_neg f];rw[if_neg f] at hr;by_cases j:k=12
 · rw[if_pos j,if_pos j]
   rw[if_pos j] at hr;by_cases d:(Go.Proofs.YtckhbnmfnpolgaaGreat.kd a 1).kind=11
   · rw[if_pos d,if_pos (key 1 11 (by omega) d)]
   · rw[if_neg d] at hr;exact absurd rfl hr
 rw[if_neg j,if_neg j];rw[if_neg j] at hr;by_cases e:k=15
 · rw[if_pos e,if_pos e]
   rw[if_pos e] at hr;by_cases d:(Go.Proofs.YtckhbnmfnpolgaaGreat.kd a 0).kind=14
   · rw[if_pos d,if_pos (key 0 14 (by omega) d)]
   · rw[if_neg d] at hr;exact absurd rfl hr
 rw[if_neg e,if_neg e];rw[if_neg e] at hr;by_cases l:k=16
 · rw[if_pos l,if_pos l]
   rw[if_pos l] at hr;by_cases d:(Go.Proofs.YtckhbnmfnpolgaaGreat.kd a 0).kind=14
   · rw[if_pos d,if_pos (key 0 14 (by omega) d)]
   · rw[if_neg d] at hr;exact absurd rfl hr
 · rw[if_neg l] at hr;exact absurd rfl hr
theorem qB(y:Int)(k:Int): ∀(ts:List Tr) (i j:Nat) (c:Int),j < ts.length->kd (Y7 y k ts i c) j=shfT y (kd ts j) (c+E4 k (i+j))
 |t::ts,i,0,c,h=> by simp[Y7,kd]
 |t::ts,i,j+1,c,h=> by
  have:=qB y k ts (i+1) j c (by simpa using h);simp only[Y7,kd,List.getD_cons_succ] at this⊢;rw[this,show i+1+j=i+(j+1) by omega]
theorem iD(u:Tr)(k:Int): ∀(ts:List Tr) (i j:Nat) (x d:Int),j < ts.length->kd (n8 u k ts i x d) j=Z0 u (kd ts j) (x+E4 k (i+j)) (d+E4 k (i+j))
 |t::ts,i,0,x,d,h=> by simp[n8,kd]
 |t::ts,i,j+1,x,d,h=> by
  have:=iD u k ts (i+1) j x d (by simpa using h);simp only[n8,kd,List.getD_cons_succ] at this⊢;rw[this,show i+1+j=i+(j+1) by omega]
theorem Uj{ts:List Tr}{j:Nat}(h:ts.length<=j):kd ts j=j2:=by
 unfold kd;rw[List.getD_eq_getElem?_getD,kN h]
 rfl
theorem kJ(y c:Int):shfT y j2 c=j2:=by
 unfold j2;rw[Jd,if_neg (fun h=> by omega)]
 rfl
theorem WI(u:Tr)(x d:Int):Z0 u j2 x d=j2:=by
 unfold j2;rw[Xc _ _ (fun h=> by omega),if_neg (fun h=> by omega)]
 rfl
theorem ef(y k:Int)(ts:List Tr)(j:Nat)(c:Int):kd (Y7 y k ts 0 c) j=shfT y (kd ts j) (c+E4 k j):=by
 rcases Nat.lt_or_ge j ts.length with h|h
 · rw[qB y k ts 0 j c h,fN]
 · rw[Uj h,Uj (by rw[OD];exact h),kJ]
theorem Jf(u:Tr)(k:Int)(ts:List Tr)(j:Nat)(x d:Int):kd (n8 u k ts 0 x d) j=Z0 u (kd ts j) (x+E4 k j) (d+E4 k j):=by
 rcases Nat.lt_or_ge j ts.length with h|h
 · rw[iD u k ts 0 j x d h,fN]
 · rw[Uj h,Uj (by rw[uE];exact h),WI]
theorem Jc{k:Int}(c:k≠3)(a:k≠4)(b:k≠13)(j:Nat):E4 k j=0:=by
 unfold E4;rw[if_neg (by omega)]
theorem Uz(y:Int)(t:Tr)(c:Int):(shfT y t c).kind=t.kind/\(shfT y t c).kids=Y7 y t.kind t.kids 0 c:=by
 obtain⟨k,n,a⟩:=t;rw[Jd];exact⟨rfl,rfl⟩
theorem pE(u:Tr)(t:Tr)(x d:Int)(h:t.kind≠1):(Z0 u t x d).kind=t.kind/\(Z0 u t x d).kids=n8 u t.kind t.kids 0 x d:=by
 obtain⟨k,n,a⟩:=t;have hk:k≠1:=h;rw[Xc (k:=k) (n:=n) u a (fun e=> hk e.1)];exact⟨rfl,rfl⟩
theorem pl{k:Int}{b:List Tr}(h:rdx k b≠0):(k=5/\(kd b 0).kind=4)\/(k=9/\(kd b 3).kind=7)\/(k=9/\(kd b 3).kind=8)\/(k=12/\(kd b 1).kind=11)\/(k=15/\(kd b 0).kind=14)\/(k=16/\(kd b 0).kind=14):=by
 unfold rdx at h;by_cases f:k=5
 · rw[if_pos f] at h
   by_cases a:(kd b 0).kind=4
   · exact .inl ⟨f,a⟩
   · rw[if_neg a] at h;exact absurd rfl h
 rw[if_neg f] at h;by_cases c:k=9
 · rw[if_pos c] at h
   by_cases a:(kd b 3).kind=7
   · exact .inr (.inl ⟨c,a⟩)
   · rw[if_neg a] at h
     by_cases i:(kd b 3).kind=8
     · exact .inr (.inr (.inl ⟨c,i⟩))
     · rw[if_neg i] at h;exact absurd rfl h
 rw[if_neg c] at h;by_cases e:k=12
 · rw[if_pos e] at h
   by_cases a:(kd b 1).kind=11
   · exact .inr (.inr (.inr (.inl ⟨e,a⟩)))
   · rw[if_neg a] at h;exact absurd rfl h
 rw[if_neg e] at h;by_cases d:k=15
 · rw[if_pos d] at h
   by_cases a:(kd b 0).kind=14
   · exact .inr (.inr (.inr (.inr (.inl ⟨d,a⟩))))
   · rw[if_neg a] at h;exact absurd rfl h
 rw[if_neg d] at h;by_cases g:k=16
 · rw[if_pos g] at h
   by_cases a:(kd b 0).kind=14
   · exact .inr (.inr (.inr (.inr (.inr ⟨g,a⟩))))
   · rw[if_neg a] at h;exact absurd rfl h
 · rw[if_neg g] at h;exact absurd rfl h
theorem kl{k:Int}{a:List Tr}(h:(k=5/\(kd a 0).kind=4)\/(k=9/\(kd a 3).kind=7)\/(k=9/\(kd a 3).kind=8)\/(k=12/\(kd a 1).kind=11)\/(k=15/\(kd a 0).kind=14)\/(k=16/\(kd a 0).kind=14)):rdx k a≠0:=by
 rcases h with⟨rfl,h⟩ |⟨rfl,h⟩ |⟨rfl,h⟩ |⟨rfl,h⟩ |⟨rfl,h⟩ |⟨rfl,h⟩ <;>(unfold rdx;simp[h])
theorem Zr{a:List Tr}:ctr 5 a=Z0 (kd a 1) (kd (kd a 0).kids 1) 0 0:=rfl
theorem ms{a:List Tr}(h:(kd a 3).kind=7):ctr 9 a=kd a 1:=by unfold ctr;simp[h]
theorem Vr{a:List Tr}(h:(kd a 3).kind=8):ctr 9 a= .mk 5 0 [.mk 5 0 [kd a 2,kd (kd a 3).kids 0],.mk 9 0 [kd a 0,kd a 1,kd a 2,kd (kd a 3).kids 0]]:=by unfold ctr;simp[h]
theorem Rx{a:List Tr}:ctr 12 a=kd a 2:=rfl
theorem Nr{a:List Tr}:ctr 15 a=kd (kd a 0).kids 1:=rfl
theorem bs{a:List Tr}:ctr 16 a=kd (kd a 0).kids 2:=rfl
theorem mC:E4 4 1=1:=rfl
theorem rv(y k n:Int)(a:List Tr)(c:Int)(h:k≠1):shfT y (.mk k n a) c= .mk k n (Y7 y k a 0 c):=by rw[Jd,if_neg (fun e=> h e.1)]
theorem pt(u:Tr)(k n:Int)(a:List Tr)(x d:Int)(h:k≠1):Z0 u (.mk k n a) x d= .mk k n (n8 u k a 0 x d):=by rw[Xc _ _ (fun e=> h e.1),if_neg (fun e=> h e.1)]
theorem Kz{k:Int}{a:List Tr}(h:rdx k a≠0){y c:Int}(e:0<=y)(hc:0<=c):rdx k (Y7 y k a 0 c)≠0/\shfT y (ctr k a) c=ctr k (Y7 y k a 0 c):=by
 have b:=pl h;have d: ∀j,(kd (Y7 y k a 0 c) j).kind=(kd a j).kind:=fun j=> by rw[ef];exact(Uz y _ _).1
 refine⟨kl (by simpa only[d] using b), ?_⟩;rcases b with⟨rfl,g⟩ |⟨rfl,g⟩ |⟨rfl,g⟩ |⟨rfl,g⟩ |⟨rfl,g⟩ |⟨rfl,g⟩
 · rw[Zr,Zr,ef,ef,(Uz y _ _).2,g,ef,mC,Jc (by decide) (by decide) (by decide),Jc (by decide) (by decide) (by decide),eO,TE _ _ e hc]
 · rw[ms g,ms (by rw[d,g]),ef,Jc (by decide) (by decide) (by decide),eO]
 · rw[Vr g,Vr (by rw[d,g])]
   rw[ef,ef,ef,ef,(Uz y _ _).2,g,ef];simp only[Jc (show(9:Int)≠3 by decide) (by decide) (by decide),Jc (show(8:Int)≠3 by decide) (by decide) (by decide),eO];rw[rv _ 5 _ _ _ (by decide)];simp only[Y7,Jc (show(5:Int)≠3 by decide) (by decide) (by decide),eO];rw[rv _ 5 _ _ _ (by decide),rv _ 9 _ _ _ (by decide)];simp only[Y7,Jc (show(5:Int)≠3 by decide) (by decide) (by decide),Jc (show(9:Int)≠3 by decide) (by decide) (by decide),eO]
 · rw[Rx,Rx,ef,Jc (by decide) (by decide) (by decide),eO]
 · rw[Nr,Nr,ef,(Uz y _ _).2,g,ef,Jc (by decide) (by decide) (by decide),Jc (by decide) (by decide) (by decide),eO,eO]
 · rw[bs,bs,ef,(Uz y _ _).2,g,ef,Jc (by decide) (by decide) (by decide),Jc (by decide) (by decide) (by decide),eO,eO]
theorem VA{k:Int}{c:List Tr}(h:rdx k c≠0)(u:Tr){x d:Int}(hx:0<=x)(hd:0<=d):rdx k (n8 u k c 0 x d)≠0/\Z0 u (ctr k c) x d=ctr k (n8 u k c 0 x d):=by
 have e:=pl h;have b: ∀j,(kd c j).kind≠1->(kd (n8 u k c 0 x d) j).kind=(kd c j).kind:=fun j f=> by rw[Jf];exact(pE u _ _ _ f).1
 refine⟨kl ?_, ?_⟩
 · rcases e with⟨a,g⟩ |⟨a,g⟩ |⟨a,g⟩ |⟨a,g⟩ |⟨a,g⟩ |⟨a,g⟩
   · exact .inl ⟨a,by rw[b _ (by omega),g]⟩
   · exact .inr (.inl ⟨a,by rw[b _ (by omega),g]⟩)
   · exact .inr (.inr (.inl ⟨a,by rw[b _ (by omega),g]⟩))
   · exact .inr (.inr (.inr (.inl ⟨a,by rw[b _ (by omega),g]⟩)))
   · exact .inr (.inr (.inr (.inr (.inl ⟨a,by rw[b _ (by omega),g]⟩))))
   · exact .inr (.inr (.inr (.inr (.inr ⟨a,by rw[b _ (by omega),g]⟩))))
 rcases e with⟨rfl,g⟩ |⟨rfl,g⟩ |⟨rfl,g⟩ |⟨rfl,g⟩ |⟨rfl,g⟩ |⟨rfl,g⟩
 · rw[Zr,Zr,Jf,Jf,(pE u _ _ _ (by omega)).2,g,Jf,mC,Jc (by decide) (by decide) (by decide),Jc (by decide) (by decide) (by decide),eO,eO,aG _ _ _ hx hd]
 · rw[ms g,ms (by rw[b _ (by omega),g]),Jf,Jc (by decide) (by decide) (by decide),eO,eO]
 · rw[Vr g,Vr (by rw[b _ (by omega),g])]
   rw[Jf,Jf,Jf,Jf,(pE u _ _ _ (by omega)).2,g,Jf];simp only[Jc (show(9:Int)≠3 by decide) (by decide) (by decide),Jc (show(8:Int)≠3 by decide) (by decide) (by decide),eO];rw[pt _ 5 _ _ _ _ (by decide)];simp only[n8,Jc (show(5:Int)≠3 by decide) (by decide) (by decide),eO];rw[pt _ 5 _ _ _ _ (by decide),pt _ 9 _ _ _ _ (by decide)];simp only[n8,Jc (show(5:Int)≠3 by decide) (by decide) (by decide),Jc (show(9:Int)≠3 by decide) (by decide) (by decide),eO]
 · rw[Rx,Rx,Jf,Jc (by decide) (by decide) (by decide),eO,eO]
 · rw[Nr,Nr,Jf,(pE u _ _ _ (by omega)).2,g,Jf,Jc (by decide) (by decide) (by decide),Jc (by decide) (by decide) (by decide)]
   simp only[eO]
 · rw[bs,bs,Jf,(pE u _ _ _ (by omega)).2,g,Jf,Jc (by decide) (by decide) (by decide),Jc (by decide) (by decide) (by decide)]
   simp only[eO]
mutual
theorem Par.shf{y:Int}(a:0<=y): ∀{t b:Tr} (c:Int),0<=c->Par t b->Par (shfT y t c) (shfT y b c)
 |_,_,c,hc,.node h=> by
  rw[Jd,Jd];exact .node (i5.shf a _ 0 c hc h)
 |_,_,c,hc,.red (k:=k) (n:=n) (ks:=ks) (ks':=ks') h0 h=> by
  have d:=Kz (show rdx k ks'≠0 by rw[h.rdx h0];exact h0) a hc;rw[Jd,d.2];exact .red (Kz h0 a hc).1 (i5.shf a _ 0 c hc h)
theorem i5.shf{y:Int}(a:0<=y): ∀{ts b:List Tr} (k:Int) (i:Nat) (c:Int),0<=c->i5 ts b->i5 (Y7 y k ts i c) (Y7 y k b i c)
 |_,_,k,i,c,hc,.nil=> .nil
 |_,_,k,i,c,hc,.cons h hs=> by
  have:=Vq k i;simp only[Y7];exact .cons (Par.shf a _ (by omega) h) (i5.shf a k (i+1) c hc hs)
end
mutual
theorem Par.sbs{u a:Tr}(b:Par u a): ∀{t c:Tr} (x d:Int),0<=x->0<=d->Par t c->Par (Z0 u t x d) (Z0 a c x d)
 |_,_,x,d,hx,hd,.node (k:=k) (n:=n) h=> by
  by_cases hv:k=1/\n=x
  · rw[Nl _ _ hv,Nl _ _ hv]
    exact b.shf hd 0 (jZ _)
  · rw[Xc _ _ hv,Xc _ _ hv]
    exact .node (i5.sbs b _ 0 x d hx hd h)
 |_,_,x,d,hx,hd,.red (k:=k) (n:=n) (ks:=ks) (ks':=ks') h0 h=> by
  have f:=VA (show rdx k ks'≠0 by rw[h.rdx h0];exact h0) a hx hd;have hv: ¬(k=1/\n=x):=fun e=> h0 (bo (by omega) (by omega) (by omega) (by omega) (by omega))
  rw[Xc _ _ hv,f.2];exact .red (VA h0 u hx hd).1 (i5.sbs b _ 0 x d hx hd h)
theorem i5.sbs{u a:Tr}(c:Par u a): ∀{ts b:List Tr} (k:Int) (i:Nat) (x d:Int),0<=x->0<=d->i5 ts b->i5 (n8 u k ts i x d) (n8 a k b i x d)
 |_,_,k,i,x,d,hx,hd,.nil=> .nil
 |_,_,k,i,x,d,hx,hd,.cons h hs=> by
  have:=Vq k i;simp only[n8];exact .cons (Par.sbs c _ _ (by omega) (by omega) h) (i5.sbs c k (i+1) x d hx hd hs)
end
theorem Par.kids_of{t a:Tr}(h:Par t a)(hk:t.kind=4\/t.kind=7\/t.kind=8\/t.kind=11\/t.kind=14):a.kind=t.kind/\i5 t.kids a.kids:=by
 have:=h.keep (by omega) (by omega) (by omega) (by omega) (by omega);exact⟨this.1,this.2.2⟩
theorem i5.ctr{k:Int}{a b:List Tr}(h:i5 a b)(f:Go.Proofs.YtckhbnmfnpolgaaGreat.rdx k a≠0):Par (Go.Proofs.YtckhbnmfnpolgaaGreat.ctr k a) (Go.Proofs.YtckhbnmfnpolgaaGreat.ctr k b):=by
 have d:=pl f;rcases d with⟨rfl,c⟩ |⟨rfl,c⟩ |⟨rfl,c⟩ |⟨rfl,c⟩ |⟨rfl,c⟩ |⟨rfl,c⟩
 · rw[Zr,Zr]
   exact(h.kd 1).sbs 0 0 (jZ _) (jZ _) (((h.kd 0).kids_of (by omega)).2.kd 1)
 · rw[ms c,ms (by rw[((h.kd 3).kids_of (by omega)).1];exact c)]
   exact h.kd 1
 · rw[Vr c,Vr (by rw[((h.kd 3).kids_of (by omega)).1];exact c)]
   have e:=((h.kd 3).kids_of (by omega)).2.kd 0;exact .node (.cons (.node (.cons (h.kd 2) (.cons e .nil))) (.cons (.node (.cons (h.kd 0) (.cons (h.kd 1) (.cons (h.kd 2) (.cons e .nil))))) .nil))
 · exact h.kd 2
 · rw[Nr,Nr]
   exact((h.kd 0).kids_of (by omega)).2.kd 1
 · rw[bs,bs]
   exact((h.kd 0).kids_of (by omega)).2.kd 2
mutual
def k7:Tr->Tr
 | .mk k n a=> if rdx k a≠0 then ctr k (xg a) else .mk k n (xg a)
def xg:List Tr->List Tr
 | []=> []
 |t::ts=> k7 t::xg ts
end
theorem Jj(k n:Int)(a:List Tr):k7 (.mk k n a)=if rdx k a≠0 then ctr k (xg a) else .mk k n (xg a):=by
 conv=> lhs;unfold k7
mutual
theorem Par.tri: ∀{t c:Tr},Par t c->Par c (k7 t)
 |_,_,.node (k:=k) (n:=n) (ks:=ks) h=> by
  have b:=h.tri;rw[Jj];by_cases a:rdx k ks≠0
  · rw[if_pos a]
    exact .red (by rw[h.rdx a];exact a) b
  · rw[if_neg a]
    exact .node b
 |_,_,.red (k:=k) (n:=n) (ks:=ks) a h=> by
  have b:=h.tri;rw[Jj,if_pos a];exact b.ctr (by rw[h.rdx a];exact a)
theorem i5.tri: ∀{ts a:List Tr},i5 ts a->i5 a (xg ts)
 |_,_,.nil=> .nil
 |_,_,.cons h hs=> .cons h.tri hs.tri
end
inductive X6:Tr->Tr->Prop where
 |refl (t:Tr):X6 t t
 |step {a b c:Tr}:X6 a b->Par b c->X6 a c
theorem X6.trans{a b c:Tr}(h:X6 a b)(k:X6 b c):X6 a c:=by
 induction k with
 |refl=> exact h
 |step _ p ih=> exact .step ih p
theorem X6.one{a b:Tr}(h:Par a b):X6 a b:= .step (.refl a) h
theorem X6.strip{a b:Tr}(h:X6 a b): ∀{c:Tr},Par a c-> ∃d,Par b d/\X6 c d:=by
 induction h with
 |refl=> exact fun{c} p=>⟨c,p,.refl c⟩
 |step _ p ih=>
  intro c q;obtain⟨d,f,e⟩:=ih q;exact⟨_,p.tri,.step e f.tri⟩
theorem X6.meet{a b:Tr}(h:X6 a b): ∀{c:Tr},X6 a c-> ∃d,X6 b d/\X6 c d:=by
 induction h with
 |refl=> exact fun{c} p=>⟨c,p,.refl c⟩
 |step _ p ih=>
  intro c q;obtain⟨d,j,g⟩:=ih q;obtain⟨e,i,f⟩:=j.strip p;exact⟨e,f,.step g i⟩
mutual
def Ul:Tr->Bool
 | .mk k _ a=> decide (rdx k a=0)&& ff a
def ff:List Tr->Bool
 | []=> true
 |t::ts=> Ul t && ff ts
end
mutual
theorem Par.normal: ∀{t a:Tr},Par t a->Ul t=true->a=t
 |_,_,.node (k:=k) (n:=n) (ks:=ks) h,hn=> by
  simp only[Ul,aW] at hn;rw[i5.normal h hn.2]
 |_,_,.red b _,hn=> by
  simp only[Ul,aW,decide_eq_true_eq] at hn;exact absurd hn.1 b
theorem i5.normal: ∀{ts a:List Tr},i5 ts a->ff ts=true->a=ts
 |_,_,.nil,_=> rfl
 |_,_,.cons h hs,hn=> by
  simp only[ff,aW] at hn;rw[Par.normal h hn.1,i5.normal hs hn.2]
end
theorem X6.normal{a b:Tr}(h:X6 a b)(hn:Ul a=true):b=a:=by
 induction h with
 |refl=> rfl
 |step _ p ih=> subst ih;exact p.normal hn
theorem X6.unique{a b c:Tr}(h:X6 a b)(k:X6 a c)(g:Ul b=true)(hc:Ul c=true):b=c:=by
 obtain⟨d,f,e⟩:=h.meet k;rw[<-f.normal g,<-e.normal hc]
def Fj(w:aL)(S:Nat->Prop)(u:aT)(p:List Int):Prop:=
 (u= .slice none 0 0/\p= [])\/ ∃b o c,u= .slice (some ⟨b,o,none⟩) p.length c/\p.length<=c/\c<=maxLen/\S b/\ ∀j (h:j < p.length),w.cell? ⟨b,o+j,none⟩=some (.int .i64 p[j])
theorem Fj.mono{w w':aL}{S S':Nat->Prop}{u:aT}{p:List Int}(hS: ∀b,S b->S' b)(e: ∀b,S b->w'.heap[b]? =w.heap[b]?)(h:Fj w S u p):Fj w' S' u p:=by
 rcases h with h|⟨b,o,c,rfl,k,g,d,f⟩
 · exact .inl h
 · exact .inr ⟨b,o,c,rfl,k,g,hS b d,fun j i=>(World.cell?_of_block (w:=w) (a:=⟨b,o+j,none⟩) (e b d)).trans (f j i)⟩
theorem Fj.slice{w:aL}{S:Nat->Prop}{u:aT}{p:List Int}(h:Fj w S u p)(hS: ∀b,S b->b < w.heap.size): ∃A c,u= .slice A p.length c/\p.length<=c/\c<=maxLen/\Sa w A p:=by
 rcases h with⟨rfl,rfl⟩ |⟨b,o,c,rfl,f,d,e,a⟩
 · exact⟨none,0,rfl,aN _,bV _,.inl rfl⟩
 · exact⟨_,c,rfl,f,d,.inr ⟨b,o,rfl,hS b e,a⟩⟩
theorem DF{w:aL}{base:Nat}{e:aZ}{v:aT}{p:List Int}(h:w.ownsRow base e 1 v p.length (p.map (eU .i64))):Fj w (fun b=> base<=b/\b < w.heap.size/\v.ownBlock=some b) v p:=by
 have i:=fun g a=> h.cells (g:=g) a
 rcases h.2 with⟨rfl,l⟩ |⟨g,c,f,rfl,m,a,hn,hm,d,ht⟩
 · exact .inl ⟨rfl,bO l⟩
 · refine .inr ⟨g,0,c,rfl,hn,hm,⟨m,O1 a,rfl⟩,fun j k=> ?_⟩
   have:=i g rfl j (m0 p[j]) (by rw[jQ,bZ k];rfl)
   rwa [Addr.add_lit] at this
def se(w:aL)(S:Nat->Prop)(a:List aT)(ps:List (List Int)):Prop:=a.length=ps.length/\ ∀(j:Nat) (u:aT) (p:List Int),a[j]? =some u->ps[j]? =some p->Fj w S u p
theorem se.mono{w w':aL}{S S':Nat->Prop}{a:List aT}{ps:List (List Int)}(hS: ∀b,S b->S' b)(c: ∀b,S b->w'.heap[b]? =w.heap[b]?)(h:se w S a ps):se w' S' a ps:=
 ⟨h.1,fun j u p e d=>(h.2 j u p e d).mono hS c⟩
theorem se.append{w:aL}{S:Nat->Prop}{a e:List aT}{ps d:List (List Int)}(h:se w S a ps)(k:se w S e d):se w S (a++e) (ps++d):=by
 refine⟨by simp[h.1,k.1],fun j u p c b=> ?_⟩;by_cases f:j < a.length
 · rw[List.getElem?_append_left f] at c
   rw[List.getElem?_append_left (by have:=h.1;omega)] at b;exact h.2 j u p c b
 · rw[eY (by omega)] at c
   rw[eY (by have:=h.1;omega)] at b;exact k.2 (j - a.length) u p c (by rw[h.1];exact b)
def Tc(W w:aL)(e:aZ)(v:aT)(ps:List (List Int)):Prop:=
 ∃a,w.ownsRow W.heap.size e 1 v ps.length a/\se w (fun b=> W.heap.size<=b/\b < w.heap.size/\v.ownBlock≠some b) a ps
theorem Tc.nil(W w:aL)(e:aZ):Tc W w e (.slice none 0 0) []:=⟨[],World.ownsRow_nil _ _ _ _,rfl,fun j u p h=> by simp at h⟩
theorem gK{w c:aL}{base b:Nat}{e:aZ}{v:aT}{n:Nat}{d:List aT}(h:w.ownsRow base e b v n d)(j: ∀g,v.ownBlock=some g->c.heap[g]? =w.heap[g]?):c.ownsRow base e b v n d:=by
 refine⟨h.1, ?_⟩;rcases h.2 with h|⟨g,cap,a,rfl,i,f,r⟩
 · exact .inl h
 · exact .inr ⟨g,cap,a,rfl,i,(j g rfl).trans f,r⟩
theorem Tc.same{W w c:aL}{e:aZ}{v:aT}{ps:List (List Int)}(h:Tc W w e v ps)(hs:w.heap.size<=c.heap.size)(i: ∀b,W.heap.size<=b->b < w.heap.size->c.heap[b]? =w.heap[b]?):Tc W c e v ps:=by
 obtain⟨j,d,k⟩:=h;exact⟨j,gK d (fun g f=> i g (d.lt g f).1 (d.lt g f).2),k.mono (fun b a=>⟨a.1,Nat.lt_of_lt_of_le a.2.1 hs,a.2.2⟩) (fun b a=> i b a.1 a.2.1)⟩
theorem Tc.since{W d w:aL}{e:aZ}{v:aT}{ps:List (List Int)}(h:Tc W w e v ps)(hs:d.heap.size<=W.heap.size):Tc d w e v ps:=by
 obtain⟨j,a,i⟩:=h;refine⟨j,⟨a.1, ?_⟩,i.mono (fun b f=>⟨bL hs f.1,f.2⟩) (fun _ _=> rfl)⟩;rcases a.2 with h|⟨g,cap,c,rfl,a,r⟩
 · exact .inl h
 · exact .inr ⟨g,cap,c,rfl,bL hs a,r⟩
theorem Tc.lt{W w:aL}{e:aZ}{v:aT}{ps:List (List Int)}(h:Tc W w e v ps){g:Nat}(a:v.ownBlock=some g):W.heap.size<=g/\g < w.heap.size:=by
 obtain⟨c,b,d⟩:=h;exact b.lt g a
theorem Tc.slice{W w:aL}{e:aZ}{v:aT}{ps:List (List Int)}(h:Tc W w e v ps): ∃A cap,v= .slice A ps.length cap/\ps.length<=cap/\cap<=maxLen/\(ps= []\/ ∃b,A=some ⟨b,0,none⟩)/\ ∀j (d:j < ps.length),∃b u,A=some ⟨b,0,none⟩/\w.cell? ⟨b,j,none⟩=some u/\Fj w (fun b=> W.heap.size<=b/\b < w.heap.size/\v.ownBlock≠some b) u ps[j]:=by
 obtain⟨m,n,k⟩:=h;have q:=fun g i=> n.cells (g:=g) i
 rcases n.2 with⟨rfl,l⟩ |⟨g,c,p,rfl,r,i,hn,hm,o,ht⟩
 · refine⟨none,0,by rw[l],by omega,bV _,.inl (bO l),fun j d=> by omega⟩
 · refine⟨_,c,rfl,hn,hm,.inr ⟨g,rfl⟩,fun j d=> ?_⟩
   have a:j < m.length:=by rw[k.1];exact d
   have f:=q g rfl j m[j] (bZ a);rw[Addr.add_lit,fN] at f;exact⟨g,_,rfl,f,k.2 j _ _ (bZ a) (bZ d)⟩
theorem aI{P:Program}(w:aL){o:Oper}{a:Act}{K:Act->aL->Prop}{Q:Exit->Act->aL->Prop}(s x:Operand)(t:aZ)
 (r:o.op= .call {callee:= .builtin .append,args:=#[s,x],argTypes:=#[t,t]})
 (base:Nat) (e:aZ) (i:TypeInfo) (z:aT) (bytes:Nat) (ht:P.underlying t=some (.slice e)) (hi:P.info? e=some i) (C:i.zero=some z) (d:i.size=1) (m:i.bytes=bytes) (L:bytes<=64) (q:z.cells.size=1)
 {v u:aT} {ns p:List Int} {S:Nat->Prop} (hs:a.eval s=v) (hG:w.ownsRow base e 1 v ns.length (ns.map (eU .i64))) (D:base<=w.heap.size)
 (hx:a.eval x=u) (J:Fj w S u p) (hn:ns.length+p.length < 1099511627776)
 (h: ∀k l,l.ownsRow base e 1 k (ns++p).length ((ns++p).map (eU .i64))->w.grownBy l v.ownBlock->(∀g,k.ownBlock=some g->v.ownBlock=some g\/w.heap.size<=g)->K (a.put o.dst k) l):o.wp P a w K Q:=by
 rcases J with⟨rfl,rfl⟩ |⟨b,H,c,rfl,R,O,N,F⟩
 · have hr:=run_append_owned_none (P:=P) (w:=w) base t o.type e i 1 ht hi v ns.length _ hG
   unfold Oper.wp execOp;simp only[r,resolve,invoke,builtin,Sem.run_bind,Sem.run_pure,Result.andThen_ok,gO,List.map_cons,List.map_nil,hs,hx,hr];exact(h v w (by simpa using hG) ⟨rfl,rfl,rfl,aN _,fun _ _ _=> rfl⟩ (fun g E=> .inl E))
 · have I:(ns.length+p.length)*bytes<=140737488355328:=bL (Nat.mul_le_mul (show ns.length+p.length<=1099511627776 by omega) L) (by decide)
   obtain⟨k,l,hr,M,G,B⟩:=cr (P:=P) w base t o.type e i z 1 bytes ht hi C d m q (by decide) v ns.length _ hG ⟨b,H,none⟩ p.length c (p.map (eU .i64)) (by simp)
    (fun j y f=> by
     rw[Addr.add_lit];rw[jQ] at f;by_cases A:j < p.length
     · rw[bZ A] at f
       rw[F j A];exact f
     · rw[kN (by omega)] at f
       cases f)
    (fun y f=> by obtain⟨n,_,rfl⟩:=List.mem_map.1 f;rfl) (by unfold maxLen;omega) I D
   unfold Oper.wp execOp;simp only[r,resolve,invoke,builtin,Sem.run_bind,Sem.run_pure,Result.andThen_ok,gO,List.map_cons,List.map_nil,hs,hx,hr];exact(h k l (by simpa using M) G B)
theorem Yx{P:Program}(w:aL){ops:Array Oper}{rest:List Oper}{o:Oper}{a:Act}{Q:Exit->Act->aL->Prop}(j:o.guard=none)(s x:Operand)(t:aZ)
 (r:o.op= .call {callee:= .builtin .append,args:=#[s,x],argTypes:=#[t,t]})
 (base:Nat) (e:aZ) (i:TypeInfo) (z:aT) (bytes:Nat) (ht:P.underlying t=some (.slice e)) (hi:P.info? e=some i) (l:i.zero=some z) (b:i.size=1) (f:i.bytes=bytes) (A:bytes<=64) (k:z.cells.size=1)
 {v u:aT} {ns p:List Int} {S:Nat->Prop} (hs:a.eval s=v) (hG:w.ownsRow base e 1 v ns.length (ns.map (eU .i64))) (n:base<=w.heap.size)
 (hx:a.eval x=u) (y:Fj w S u p) (hn:ns.length+p.length < 1099511627776)
 (h: ∀c d,d.ownsRow base e 1 c (ns++p).length ((ns++p).map (eU .i64))->w.grownBy d v.ownBlock->(∀g,c.ownBlock=some g->v.ownBlock=some g\/w.heap.size<=g)->wpList P ops Q rest (a.put o.dst c) d):wpList P ops Q (o::rest) a w:=
 wpList_plain j fun K hK=> aI w s x t r base e i z bytes ht hi l b f A k hs hG n hx y hn (fun c d B q m=> hK _ _ (h c d B q m))
end Go.Proofs.YtckhbnmfnpolgaaGreat
namespace Go.Proofs.YtckhbnmfnpolgaaGreat
open Go.RowKit
attribute [local go_sem ↓] Go.wp_at_zero Go.wp_at_succ
def Ux(t:aZ)(s:Nat):Op:=Op.load t (.tmp s)
attribute [local go_sem] Ux
theorem Pq:(prog.info? 25).map (fun i=>(i.zero,i.size,i.bytes))=some (some (M0 0 0 none 0 0),3,40):=by kernel_rfl
theorem FD(y:Int): ∀{k:Int} {ts:List Tr} {i j:Nat} {c:Int} (h:j < ts.length),(Y7 y k ts i c)[j]'(by rw[OD];exact h)=shfT y ts[j] (c+E4 k (i+j))
 |k,t::ts,i,0,c,h=> by simp[Y7]
 |k,t::ts,i,j+1,c,h=> by
  simp only[Y7,List.getElem_cons_succ];rw[FD y (j:=j) (by simpa using h),show i+1+j=i+(j+1) by omega]
theorem y22.lt{w:aL}{b o j:Nat}{c:List Tr}(h:y22 w (some ⟨b,o,none⟩) c)(a:j < c.length):b < w.heap.size:=by
 rcases h with h|⟨f,g,e,d,-⟩
 · rw[h] at a;simp at a
 · cases e;exact d
theorem CE{l:List Tr}{j:Nat}{t:Tr}(h:j < l.length)(e:l[j]=t):l.take j++ [t]=l.take (j+1):=by rw[<-e];exact List.take_append_getElem h
def IG(t:Tr):Prop:= ∀(w:aL) (v:aT) (y c d:Int),P0 D0 t d=true->Lies w t v->cnt t<=1000->0<=y->y<=1000000->0<=c->c+cnt t<=1000000->
 Calls prog 104 #[v,.int .i64 y,.int .i64 c] w fun e a=> ∃u,e= .returned u/\W0 w a 25 (shfT y t c) u/\Ext w a
theorem ID: ∀t:Tr,IG t:=Tr.ind fun k n f hk=> by
 intro w v y c d hsh b8 P6 hy0 hy1 hc0 hc1;obtain⟨-,N7,Q8,hsk⟩:=Z4 hsh;have Y0:=Zi k;obtain⟨A,cap,rfl,hl,hc,hK⟩:=Lies.mk_iff.1 b8;obtain⟨i0,hi,hz0,Y,U⟩:=info_parts Pq;have J:=hc;unfold maxLen at J;simp only[cnt] at P6 hc1;have hlc:=Lf f;obtain⟨N,d1⟩: ∃N,(k==1)=N:=⟨_,rfl⟩;obtain⟨Q,d2⟩: ∃Q,decide (c<=n)=Q:=⟨_,rfl⟩;obtain⟨r,E⟩: ∃r,r=if(N && Q)=true then n+y else n:=⟨_,rfl⟩
 obtain⟨g,P⟩: ∃g,g=Y7 y k f 0 c:=⟨_,rfl⟩;have s:shfT y (.mk k n f) c= .mk k r g:=by
  rw[E,P,<-d1,<-d2]
  conv=> lhs;unfold shfT
  simp
 have qf:g.length=f.length:=by rw[P,OD]
 have T5: ∀j (h:j < f.length),g[j]'(by omega)=shfT y f[j] (c+E4 k j):=fun j h=> by
  subst P;rw[FD y h,fN]
 rw[s];have W7:=hdq T5;clear s P T5;cases N with
 |true=>
  obtain rfl:k=1:=by simpa using d1
  obtain⟨rfl,-,-⟩:=wD hsh;obtain rfl:g= []:=bO (by simpa using qf);cases Q
  all_goals simp only[Bool.and_true,Bool.and_false,if_true,kL,if_false] at E
  all_goals go_enter func104,ntmps104
  all_goals go_wp2_with fail
  all_goals refine wp_loop_rounds 1 ?_
  all_goals rw[rounds_succ]
  all_goals go_wp2_with fail
  all_goals exact bodyPost_ret (v:= .agg #[.int .i64 1,.int .i64 r,.slice none 0 0]) (by simp[results,results104,go_sem,E]) rfl ⟨_,rfl,W0.leaf _ _ _ _ _,(((xr w).alloc _).alloc _).alloc _⟩
 |false=>
  simp only[Bool.false_and,kL,if_false] at E;go_enter func104,ntmps104;go_wp2_with fail;obtain⟨m,D⟩: ∃m,m=(w.alloc (.cells #[.int .i64 k,.int .i64 n,.slice A f.length cap] 25)).alloc (.cells #[.int .i64 0,.int .i64 0,.slice none 0 0] 25):=⟨_,rfl⟩;obtain⟨W,F⟩: ∃W,W=m.alloc (.cells #[.int .i64 k,.int .i64 r,.slice none 0 0] 25):=⟨_,rfl⟩;have Z:m.heap.size=w.heap.size+1+1:=by rw[D];simp
  have mb:W.heap.size=w.heap.size+3:=by rw[F];simp;omega
  have B8:Ext w m:=D▸((xr w).alloc _).alloc _;have cn:Ext m W:=F▸(xr m).alloc _;have F3:m.heap[w.heap.size+1]? =some (.cells #[.int .i64 0,.int .i64 0,.slice none 0 0] 25 (0,0)):=by
   rw[D];exact(blk2 (xr _)).2.1
  have ei:W.heap[w.heap.size+1+1]? =some (.cells #[.int .i64 k,.int .i64 r,.slice none 0 0] 25 (0,0)):=by
   have:=heap_alloc_new m (.cells #[.int .i64 k,.int .i64 r,.slice none 0 0] 25);rw[Z] at this;rw[F];exact this
  have S8:m.heap[w.heap.size]? =some (.cells #[.int .i64 k,.int .i64 n,.slice A f.length cap] 25 (0,0)):=by
   rw[D];exact(blk2 (xr _)).1
  rw[E] at F;rw[<-D,<-F];clear F D
  go_loopw [8] (fun i wr=> ∃(j:Nat) (v:aT),j<=f.length/\i= .int .i64 j/\wr.heap[w.heap.size+1+1]? =some (.cells #[.int .i64 k,.int .i64 r,v] 25 (0,0))/\N4 W wr 25 v (g.take j)/\Ext m wr/\W.heap.size<=wr.heap.size) (fun i _=> f.length -(intOf i).toNat)
  case atStart=> exact⟨0,_,bV _,rfl,ei,N4.nil _ _ _,cn,aN _⟩
  case round=>
   obtain⟨j,v,hj,rfl,M,hG,B,I⟩:=hrel;by_cases z:j < f.length
   · obtain⟨b,o,k',n',A',x,kids,rfl,HK,c0,c1,c2,I5,I3,hK',x7,e9⟩:=hK.get (B8.trans B) z
     have S:=CE (l:=g) (j:=j) (by omega) (W7.out j z);rw[HK.out] at S;have vn:=Vq k j;have ce:=hsk _ e9;have qd:(j:Int) <(f.length:Int):=by omega
     obtain⟨uu,hu⟩: ∃u,u=E4 k j:=⟨_,rfl⟩;have HU:=hdq (fun W=> ZC k j W);rw[<-hu] at HU vn S;have jg:=hdq S;have px:=hdq (IntWalk.i64_in (c+uu) ⟨by omega,by omega⟩);clear hu S;have hcm:=k9 e9;have H:(g.take j).length < 1099511627776:=by rw[dM];omega
     have U9:(g.take j).length=j:=by rw[dM];omega
     have HL:=hdq U9;have X:=B.blk S8;obtain⟨t0,-,t2,-,-,-⟩:=own3 X;have hj':(j:Int) <(f.length:Int):=by omega
     go_wp2_with fail;have T:=I;have I2:=hG;have N3:=M;have hv:=U1 N3 2;have p8: ∀a,Below W.heap.size wr a->a.heap[w.heap.size+1+1]? =some (.cells #[.int .i64 k,.int .i64 r,v] 25 (0,0)):=fun a hB=>(hB.block (w.heap.size+1+1) (by omega)).trans N3
     have L:=hdq p8;have R:Ext wr wr.drew:=(xr wr).drew;have U3:=x7.ext R;have dz:=B;have Ej:=hK.lt z;have K:=hdq (show∀a,Below (w.heap.size+1) wr a->a.cell? ⟨w.heap.size,0,none⟩=some (.int .i64 k)/\a.cell? ⟨w.heap.size,2,none⟩=some (.slice (some ⟨b,o,none⟩) f.length cap)/\a.cell? ⟨b,o+j*3,none⟩=some (.int .i64 k')/\a.cell? ⟨b,o+j*3+1,none⟩=some (.int .i64 n')/\a.cell? ⟨b,o+j*3+2,none⟩=some (.slice A' kids.length x) from fun a q=>
      ⟨(q.cell (p:=⟨w.heap.size,0,none⟩) (by show w.heap.size < _;omega)).trans t0,(q.cell (p:=⟨w.heap.size,2,none⟩) (by show w.heap.size < _;omega)).trans t2,(q.cell (p:=⟨b,o+j*3,none⟩) (by show b < _;omega)).trans c0,(q.cell (p:=⟨b,o+j*3+1,none⟩) (by show b < _;omega)).trans c1,(q.cell (p:=⟨b,o+j*3+2,none⟩) (by show b < _;omega)).trans c2⟩)
     have Lp:Below (w.heap.size+1) wr wr.drew:=(Below.refl _ _).drew;clear p8 U9 M hG B I J;rw[show Op.load 23 (Operand.tmp 35)=Ux 23 35 from rfl]
     go_region_held_law (fun a=> a.cell? ⟨w.heap.size,0,none⟩=some (.int .i64 k)/\a.cell? ⟨w.heap.size,2,none⟩=some (.slice (some ⟨b,o,none⟩) f.length cap)/\a.cell? ⟨b,o+j*3,none⟩=some (.int .i64 k')/\a.cell? ⟨b,o+j*3+1,none⟩=some (.int .i64 n')/\a.cell? ⟨b,o+j*3+2,none⟩=some (.slice A' kids.length x))
      (first|exact K.out _ ((Ay.setCell (by show _<=w.heap.size+1+1;omega) _)) |exact K.out _ Ay|exact K.out _ (wn.alloc (by omega) _) |exact K.out _ wn|exact K.out _ Lp)
      (first|(go_simp;go_at_call 127;refine(HU.out _).mono ?_;rintro e wu ⟨rfl,rfl⟩) |(go_simp;go_at_call 104;(try rw[px.out]);refine(hk _ e9 _ _ y (c+uu) (d - 1) ce U3 (by omega) hy0 hy1 (by omega) (by omega)).mono ?_;rintro e w4 ⟨u,rfl,hM,O⟩;obtain⟨a1,a2,a3,a4,a5,rfl⟩:=hM.three';have G:=U1 (L.out _ ((R.trans O).below T)) 2;have iz:=World.block_lt_of_cell? _ _ G;have wn:Below (w.heap.size+1) wr w4:=((R.trans O).below T).mono (by omega)) |(refine qE _ (by rfl) (.tmp 36) (.tmp 50) _ (by rfl) 25 i0 _ underlying23 hi hz0 Y U rfl (by rfl) I2 T (R.trans O) (hM.since (aN _)) ((xr _).alloc _) (by rfl) (heap_alloc_new _ _) H ?_;intro v' V C3 C;obtain⟨B5,c5,rfl,q1,q2,-⟩:=C3.made;have kr:=U1 (L.out _ C) 2;have ui:=ib (L.out _ C) 2;have Ay:Below (w.heap.size+1) wr V:=C.mono (by omega)))
     all_goals(
      have W8:Ext m V:=dz.trans' C (by omega);have hs5:=C.size;have ba:=L.out _ C;rw[List.length_append,List.length_singleton,HL.out,jg.out] at C3;have jh:=fun u=> C3.after ((ja.refl W.heap.size V).setCell (p:=⟨w.heap.size+1+1,2,none⟩) (by show w.heap.size+1+1 < W.heap.size;omega) u)
      clear G iz hv L hM O c0 c1 c2 t2 t0;go_wp2_with fail
      go_roundw
      case rel=> exact⟨j+1,_,by omega,by go_num,N5 ba 2 _,jh _,W8.setCell (by show _<=w.heap.size+1+1;omega) _,by simp;omega⟩
      case measure=> simp[intOf];omega)
   · obtain⟨B5,c5,rfl,q1,q2,Y5⟩:=hG.made
     have T9:j=f.length:=by omega
     have xe:g.take j=g:=List.take_of_length_le (by omega);obtain⟨r0,r1,r2,-,-,-⟩:=own3 M;have X:=B.blk S8;obtain⟨-,-,t2,-,-,-⟩:=own3 X;have P3:=B.blk F3;obtain⟨s0,s1,s2,f0,f1,f2⟩:=own3 P3;rw[xe] at q1 r2 Y5;clear M;go_wp2_with fail;refine bodyPost_ret (v:= .agg #[.int .i64 k,.int .i64 r,.slice B5 g.length c5]) (by simp[results,results104,go_sem,s0,s1,s2,E,qf]) rfl ⟨_,rfl, ?_, ?_⟩
     · exact W0.since (W0.after (W0.mk q1 q2 Y5) ((((ja.refl _ _).setCell (by show w.heap.size+1 < _;omega) _).setCell (by show w.heap.size+1 < _;omega) _).setCell (by show w.heap.size+1 < _;omega) _)) (by omega)
     · exact((((B8.trans B).setCell (by simp) _).setCell (by simp) _).setCell (by simp) _)
end Go.Proofs.YtckhbnmfnpolgaaGreat
namespace Go.Proofs.YtckhbnmfnpolgaaGreat
theorem lG{k:Int}{n:Nat}(h:U0 k=(n:Int)):k=1\/k=2\/k=3\/k=4\/k=5\/k=6\/k=7\/k=8\/k=9\/k=10\/k=11\/k=12\/k=13\/k=14\/k=15\/k=16:=by
 by_cases hk:1<=k/\k<=16
 · omega
 · exfalso
   unfold U0 at h
   repeat rw[if_neg (by omega)] at h
   omega
end Go.Proofs.YtckhbnmfnpolgaaGreat
namespace Go.Proofs.YtckhbnmfnpolgaaGreat
open Go.RowKit
theorem InK.bound{w:aL}{S:Nat->Prop}{A:Option Addr}{a:List Tr}(h:InK w S A a):InK w (fun b=> S b/\b < w.heap.size) A a:=by
 rcases h with h|⟨b,o,rfl,d,hl⟩
 · exact .inl h
 · cases a with
   |nil=> exact .inl rfl
   |cons t ts=>
    refine .inr ⟨b,o,rfl,⟨d, ?_⟩,O4.bound hl⟩;unfold O4 at hl;obtain⟨⟨v0,v1,v2,c,-⟩,-⟩:=hl;exact World.block_lt_of_cell? _ _ c
theorem InT.keep{w W:aL}{N:Nat->Prop}{t:Tr}{v:aT}{g:Nat}(h:InT w N t v)(c:Ext w W)(d:w.heap.size<=g):InT W (fun b=> N b/\b≠g) t v:=
 InT.mono (fun b a=>⟨a.1,by omega⟩) (fun b a=> c.heap b a.2) h.bound
theorem InK.keep{w W:aL}{N:Nat->Prop}{A:Option Addr}{c:List Tr}{g:Nat}(h:InK w N A c)(d:Ext w W)(e:w.heap.size<=g):InK W (fun b=> N b/\b≠g) A c:=
 InK.mono (fun b a=>⟨a.1,by omega⟩) (fun b a=> d.heap b a.2) h.bound
theorem InK.later{w c:aL}{S:Nat->Prop}{A:Option Addr}{d:List Tr}(h:InK w S A d)(e:Ext w c):InK c S A d:=
 InK.mono (fun _ a=> a.1) (fun b a=> e.heap b a.2) h.bound
theorem InT.lies'{w:aL}{N:Nat->Prop}{t:Tr}{v:aT}(h:InT w N t v):Lies w t v:=InT.mono (fun b a=> a.2) (fun _ _=> rfl) h.bound
theorem InT.ret{W:aL}{N:Nat->Prop}{t:Tr}{v:aT}{g:Nat}(h:InT W (fun b=> N b/\b≠g) t v)(x y z:aT):InT (((W.setCell ⟨g,0,none⟩ x).setCell ⟨g,1,none⟩ y).setCell ⟨g,2,none⟩ z) N t v:=
 InT.mono (fun b a=> a.1) (fun b a=> by rw[Below.heap_setCell _ _ _ _ a.2,Below.heap_setCell _ _ _ _ a.2,Below.heap_setCell _ _ _ _ a.2]) h
theorem d5(W:aL)(N:Nat->Prop)(k n:Int):InT W N (.mk k n []) (M0 k n none 0 0):=InT.mk_iff.2 ⟨none,0,rfl,aN _,bV _,.inl rfl⟩
theorem W0.at'{w a:aL}{N:Nat->Prop}{e:aZ}{t:Tr}{v:aT}(h:W0 w a e t v)(hN: ∀b,w.heap.size<=b->N b):InT a N t v:=InT.mono (fun b c=> hN b c.1) (fun _ _=> rfl) (Y1.made h)
theorem Ia{w:aL}{N:Nat->Prop}{g n:Nat}(hN: ∀b,w.heap.size<=b->N b)(c:w.heap.size<=n)(a:g < n): ∀b,n<=b->N b/\b≠g:=fun b d=>⟨hN b (by omega),by omega⟩
def q8(N:Nat->Prop)(w:aL)(r:Tr×Int)(e:Ending)(a:aL):Prop:= ∃u,e= .returned (.tuple #[u,.int .i64 r.2])/\InT a N r.1 u/\Ext w a
