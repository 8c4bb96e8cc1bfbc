/-
  Lemmas towards the law, 14: Par.
-/
import Derived.Test.YtbnkbepgmenblaaGreatDoorFAL
set_option linter.unusedVariables false
namespace Go.Proofs.YtbnkbepgmenblaaGreatDoor
open Go.RowKit
theorem q22(y:Int)(k n:Int)(ks:List Tr)(c:Int):shfT y (.mk k n ks) c= .mk k (if k=1/\c<=n then n+y else n) (q20 y k ks 0 c):=by
 conv=> lhs;unfold shfT
theorem q175(u:Tr)(k n:Int)(ks:List Tr)(x d:Int):sbsT u (.mk k n ks) x d=if k=1/\n=x then shfT d u 0 else .mk k (if k=1/\x < n then n - 1 else n) (y21 u k ks 0 x d):=by
 conv=> lhs;unfold sbsT
theorem y30(u:Tr){k n:Int}(ks:List Tr){x d:Int}(h:k=1/\n=x):sbsT u (.mk k n ks) x d=shfT d u 0:=by rw[q175,if_pos h]
theorem q15(u:Tr){k n:Int}(ks:List Tr){x d:Int}(h: ¬(k=1/\n=x)):sbsT u (.mk k n ks) x d= .mk k (if k=1/\x < n then n - 1 else n) (y21 u k ks 0 x d):=by rw[q175,if_neg h]
mutual
theorem j175(a b:Int)(hb:0<=b): ∀(t:Tr) (c0 c1:Int),c0<=c1->c1<=c0+b->shfT a (shfT b t c0) c1=shfT (b+a) t c0
 | .mk k n ks,c0,c1,h0,h1=> by
  rw[q22,q22,q22,q141 a b hb k ks 0 c0 c1 h0 h1]
  congr 1
  by_cases hk:k=1
  · subst hk
    by_cases h2:c0<=n
    · rw[if_pos (show(1:Int)=1/\c0<=n from⟨rfl,h2⟩),if_pos (show(1:Int)=1/\c0<=n from⟨rfl,h2⟩),if_pos ⟨rfl,by omega⟩];omega
    · rw[if_neg (show¬((1:Int)=1/\c0<=n) from fun h=> h2 h.2),if_neg (show¬((1:Int)=1/\c0<=n) from fun h=> h2 h.2),if_neg (fun h=> by omega)]
  · rw[if_neg (fun h=> hk h.1),if_neg (fun h=> hk h.1),if_neg (fun h=> hk h.1)]
theorem q141(a b:Int)(hb:0<=b): ∀(k:Int) (ts:List Tr) (i:Nat) (c0 c1:Int),c0<=c1->c1<=c0+b->q20 a k (q20 b k ts i c0) i c1=q20 (b+a) k ts i c0
 |_, [],_,_,_,_,_=> rfl
 |k,t::ts,i,c0,c1,h0,h1=> by
  simp only[q20];rw[j175 a b hb t _ _ (by omega) (by omega),q141 a b hb k ts (i+1) c0 c1 h0 h1]
end
mutual
theorem j143(a b:Int)(ha:0<=a)(hb:0<=b): ∀(t:Tr) (c0 c1:Int),c0<=c1->shfT a (shfT b t c0) (c1+b)=shfT b (shfT a t c1) c0
 | .mk k n ks,c0,c1,h0=> by
  rw[q22,q22,q22,q22,q126 a b ha hb k ks 0 c0 c1 h0]
  congr 1
  by_cases hk:k=1
  · subst hk
    by_cases h2:c0<=n
    · rw[if_pos (show(1:Int)=1/\c0<=n from⟨rfl,h2⟩)]
      by_cases h3:c1<=n
      · rw[if_pos ⟨rfl,by omega⟩,if_pos (show(1:Int)=1/\c1<=n from⟨rfl,h3⟩),if_pos ⟨rfl,by omega⟩];omega
      · rw[if_neg (fun h=> by omega),if_neg (show¬((1:Int)=1/\c1<=n) from fun h=> h3 h.2),if_pos ⟨rfl,h2⟩]
    · rw[if_neg (show¬((1:Int)=1/\c0<=n) from fun h=> h2 h.2),if_neg (fun h=> by omega),if_neg (show¬((1:Int)=1/\c1<=n) from fun h=> by omega),if_neg (fun h=> by omega)]
  · rw[if_neg (fun h=> hk h.1),if_neg (fun h=> hk h.1),if_neg (fun h=> hk h.1),if_neg (fun h=> hk h.1)]
theorem q126(a b:Int)(ha:0<=a)(hb:0<=b): ∀(k:Int) (ts:List Tr) (i:Nat) (c0 c1:Int),c0<=c1->q20 a k (q20 b k ts i c0) i (c1+b)=q20 b k (q20 a k ts i c1) i c0
 |_, [],_,_,_,_=> rfl
 |k,t::ts,i,c0,c1,h0=> by
  simp only[q20];rw[show c1+b+und k i=c1+und k i+b by omega,j143 a b ha hb t _ _ (by omega),q126 a b ha hb k ts (i+1) c0 c1 h0]
end
mutual
theorem j90(u:Tr)(y:Int)(hy:0<=y): ∀(t:Tr) (x d c:Int),0<=c->c<=x->c<=d->shfT y (sbsT u t x d) c=sbsT u (shfT y t c) (x+y) (d+y)
 | .mk k n ks,x,d,c,h0,h1,h2=> by
  by_cases hv:k=1/\n=x
  · obtain⟨rfl,rfl⟩:=hv
    rw[y30 u ks ⟨rfl,rfl⟩,q22,if_pos (show(1:Int)=1/\c<=n from⟨rfl,h1⟩),y30 u _ ⟨rfl,rfl⟩];exact j175 y d (by omega) u 0 c h0 (by omega)
  · rw[q15 u ks hv,q22,q22]
    have hne: ¬(k=1/\(if k=1/\c<=n then n+y else n)=x+y):=by
     rintro⟨rfl,h⟩;by_cases h3:c<=n
     · rw[if_pos ⟨rfl,h3⟩] at h;exact hv ⟨rfl,by omega⟩
     · rw[if_neg (fun h=> h3 h.2)] at h;omega
    rw[q15 u _ hne,y84 u y hy k ks 0 x d c h0 h1 h2]
    congr 1
    by_cases hk:k=1
    · subst hk
      simp only[true_and];have hn:n≠x:=fun h=> hv ⟨rfl,h⟩
      by_cases h3:x < n
      · rw[if_pos h3,if_pos (show c<=n - 1 by omega),if_pos (show c<=n by omega),if_pos (by omega)];omega
      · rw[if_neg h3]
        by_cases h4:c<=n
        · rw[if_pos h4,if_neg (by omega)]
        · rw[if_neg h4,if_neg (by omega)]
    · rw[if_neg (fun h=> hk h.1),if_neg (fun h=> hk h.1),if_neg (fun h=> hk h.1),if_neg (fun h=> hk h.1)]
theorem y84(u:Tr)(y:Int)(hy:0<=y): ∀(k:Int) (ts:List Tr) (i:Nat) (x d c:Int),0<=c->c<=x->c<=d->q20 y k (y21 u k ts i x d) i c=y21 u k (q20 y k ts i c) i (x+y) (d+y)
 |_, [],_,_,_,_,_,_,_=> rfl
 |k,t::ts,i,x,d,c,h0,h1,h2=> by
  have:=y64 k i;simp only[y21,q20];rw[j90 u y hy t _ _ _ (by omega) (by omega) (by omega),y84 u y hy k ts (i+1) x d c h0 h1 h2,show x+y+und k i=x+und k i+y by omega,show d+y+und k i=d+und k i+y by omega]
end
mutual
theorem q84(u:Tr)(y c:Int)(hy:0<=y)(hc:0<=c): ∀(t:Tr) (x d:Int),0<=d->x<=c+d->shfT y (sbsT u t x d) (c+d)=sbsT (shfT y u c) (shfT y t (c+d+1)) x d
 | .mk k n ks,x,d,h0,h1=> by
  by_cases hv:k=1/\n=x
  · obtain⟨rfl,rfl⟩:=hv
    rw[y30 u ks ⟨rfl,rfl⟩,q22,if_neg (show¬((1:Int)=1/\c+d+1<=n) from fun h=> by omega),y30 _ _ ⟨rfl,rfl⟩];exact j143 y d hy h0 u 0 c hc
  · rw[q15 u ks hv,q22,q22]
    have hne: ¬(k=1/\(if k=1/\c+d+1<=n then n+y else n)=x):=by
     rintro⟨rfl,h⟩;by_cases h3:c+d+1<=n
     · rw[if_pos ⟨rfl,h3⟩] at h;omega
     · rw[if_neg (fun h=> h3 h.2)] at h;exact hv ⟨rfl,h⟩
    rw[q15 _ _ hne,q73 u y c hy hc k ks 0 x d h0 h1]
    congr 1
    by_cases hk:k=1
    · subst hk
      simp only[true_and];have hn:n≠x:=fun h=> hv ⟨rfl,h⟩
      by_cases h3:x < n
      · rw[if_pos h3]
        by_cases h4:c+d<=n - 1
        · rw[if_pos h4,if_pos (show c+d+1<=n by omega),if_pos (by omega)];omega
        · rw[if_neg h4,if_neg (show¬c+d+1<=n by omega),if_pos h3]
      · rw[if_neg h3,if_neg (show¬c+d<=n by omega),if_neg (show¬c+d+1<=n by omega),if_neg h3]
    · rw[if_neg (fun h=> hk h.1),if_neg (fun h=> hk h.1),if_neg (fun h=> hk h.1),if_neg (fun h=> hk h.1)]
theorem q73(u:Tr)(y c:Int)(hy:0<=y)(hc:0<=c): ∀(k:Int) (ts:List Tr) (i:Nat) (x d:Int),0<=d->x<=c+d->q20 y k (y21 u k ts i x d) i (c+d)=y21 (shfT y u c) k (q20 y k ts i (c+d+1)) i x d
 |_, [],_,_,_,_,_=> rfl
 |k,t::ts,i,x,d,h0,h1=> by
  have:=y64 k i;simp only[y21,q20];rw[show c+d+und k i=c+(d+und k i) by omega,q84 u y c hy hc t _ _ (by omega) (by omega),q73 u y c hy hc k ts (i+1) x d h0 h1,show c+d+1+und k i=c+(d+und k i)+1 by omega]
end
mutual
theorem j180(u:Tr)(e:Int)(he:0<=e): ∀(t:Tr) (x d b:Int),b<=x->x<=b+e->sbsT u (shfT (e+1) t b) x d=shfT e t b
 | .mk k n ks,x,d,b,h0,h1=> by
  rw[q22,q22];by_cases hk:k=1
  · subst hk
    by_cases h2:b<=n
    · rw[if_pos (show(1:Int)=1/\b<=n from⟨rfl,h2⟩),if_pos (show(1:Int)=1/\b<=n from⟨rfl,h2⟩),q15 _ _ (fun h=> by omega),q87 u e he 1 ks 0 x d b h0 h1,if_pos ⟨rfl,by omega⟩]
      congr 1
      omega
    · rw[if_neg (show¬((1:Int)=1/\b<=n) from fun h=> h2 h.2),if_neg (show¬((1:Int)=1/\b<=n) from fun h=> h2 h.2),q15 _ _ (fun h=> by omega),q87 u e he 1 ks 0 x d b h0 h1,if_neg (fun h=> by omega)]
  · rw[if_neg (fun h=> hk h.1),if_neg (fun h=> hk h.1),q15 _ _ (fun h=> hk h.1),q87 u e he k ks 0 x d b h0 h1,if_neg (fun h=> hk h.1)]
theorem q87(u:Tr)(e:Int)(he:0<=e): ∀(k:Int) (ts:List Tr) (i:Nat) (x d b:Int),b<=x->x<=b+e->y21 u k (q20 (e+1) k ts i b) i x d=q20 e k ts i b
 |_, [],_,_,_,_,_,_=> rfl
 |k,t::ts,i,x,d,b,h0,h1=> by
  simp only[q20,y21];rw[j180 u e he t _ _ _ (by omega) (by omega),q87 u e he k ts (i+1) x d b h0 h1]
end
mutual
theorem j190(u a:Tr)(x d:Int)(hx:0<=x)(hd:0<=d): ∀(t:Tr) (b:Int),0<=b->sbsT u (sbsT a t b b) (x+b) (d+b)=sbsT (sbsT u a x d) (sbsT u t (x+1+b) (d+1+b)) b b
 | .mk k n ks,b,hb=> by
  by_cases hk:k=1
  · subst hk
    by_cases h1:n=b
    · subst h1
      have e1:sbsT a (.mk 1 n ks) n n=shfT n a 0:=y30 _ _ ⟨rfl,rfl⟩;have e2:sbsT u (.mk 1 n ks) (x+1+n) (d+1+n)= .mk 1 n (y21 u 1 ks 0 (x+1+n) (d+1+n)):=by
       rw[q15 _ _ (fun h=> by omega),if_neg (fun h=> by omega)]
      rw[e1,e2,y30 _ _ ⟨rfl,rfl⟩,j90 u n hb a x d 0 (Int.le_refl _) hx hd]
    · by_cases h2:n=x+1+b
      · have e1:sbsT a (.mk 1 n ks) b b= .mk 1 (n - 1) (y21 a 1 ks 0 b b):=by
         rw[q15 _ _ (fun h=> h1 h.2),if_pos ⟨rfl,by omega⟩]
        have e2:sbsT u (.mk 1 n ks) (x+1+b) (d+1+b)=shfT (d+1+b) u 0:=y30 _ _ ⟨rfl,h2⟩;rw[e1,e2,y30 _ _ ⟨rfl,by omega⟩,show d+1+b=d+b+1 by omega,j180 _ (d+b) (by omega) u b b 0 hb (by omega)]
      · have e1:sbsT a (.mk 1 n ks) b b= .mk 1 (if b < n then n - 1 else n) (y21 a 1 ks 0 b b):=by
         rw[q15 _ _ (fun h=> h1 h.2)];simp
        have e2:sbsT u (.mk 1 n ks) (x+1+b) (d+1+b)= .mk 1 (if x+1+b < n then n - 1 else n) (y21 u 1 ks 0 (x+1+b) (d+1+b)):=by
         rw[q15 _ _ (fun h=> h2 h.2)];simp
        rw[e1,e2];have hs:=j113 u a x d hx hd 1 ks 0 b hb;by_cases h3:b < n
        · rw[if_pos h3]
          by_cases h4:x+1+b < n
          · rw[if_pos h4,q15 _ _ (fun h=> by omega),q15 _ _ (fun h=> by omega),hs,if_pos ⟨rfl,by omega⟩,if_pos ⟨rfl,by omega⟩]
          · rw[if_neg h4,q15 _ _ (fun h=> by omega),q15 _ _ (fun h=> h1 h.2),hs,if_neg (fun h=> by omega),if_pos ⟨rfl,h3⟩]
        · rw[if_neg h3,if_neg (show¬x+1+b < n by omega),q15 _ _ (fun h=> by omega),q15 _ _ (fun h=> h1 h.2),hs,if_neg (fun h=> by omega),if_neg (fun h=> h3 h.2)]
  · have q: ∀(v:Tr) (ls:List Tr) (y z:Int),sbsT v (.mk k n ls) y z= .mk k n (y21 v k ls 0 y z):=fun v ls y z=> by
     rw[q15 _ _ (fun h=> hk h.1),if_neg (fun h=> hk h.1)]
    rw[q,q,q,q,j113 u a x d hx hd k ks 0 b hb]
theorem j113(u a:Tr)(x d:Int)(hx:0<=x)(hd:0<=d): ∀(k:Int) (ts:List Tr) (i:Nat) (b:Int),0<=b->y21 u k (y21 a k ts i b b) i (x+b) (d+b)=y21 (sbsT u a x d) k (y21 u k ts i (x+1+b) (d+1+b)) i b b
 |_, [],_,_,_=> rfl
 |k,t::ts,i,b,hb=> by
  have:=y64 k i;simp only[y21];rw[show x+b+und k i=x+(b+und k i) by omega,show d+b+und k i=d+(b+und k i) by omega,j190 u a x d hx hd t _ (by omega),j113 u a x d hx hd k ts (i+1) b hb,show x+1+b+und k i=x+1+(b+und k i) by omega,show d+1+b+und k i=d+1+(b+und k i) by omega]
end
theorem j203(u a t:Tr){x d:Int}(hx:0<=x)(hd:0<=d):sbsT u (sbsT a t 0 0) x d=sbsT (sbsT u a x d) (sbsT u t (x+1) (d+1)) 0 0:=by
 have:=j190 u a x d hx hd t 0 (Int.le_refl _)
 simpa using this
theorem y211(a t:Tr){y c:Int}(hy:0<=y)(hc:0<=c):shfT y (sbsT a t 0 0) c=sbsT (shfT y a c) (shfT y t (c+1)) 0 0:=by
 have:=q84 a y c hy hc t 0 0 (Int.le_refl _) (by omega)
 simpa using this
def kd(ks:List Tr)(i:Nat):Tr:=ks.getD i y14
def rdx(k:Int)(ks:List Tr):Int:=
 if k=5 then(if(kd ks 0).kind=4 then 1 else 0)
 else if k=9 then(if(kd ks 3).kind=7 then 2 else if(kd ks 3).kind=8 then 3 else 0)
 else if k=12 then(if(kd ks 1).kind=11 then 4 else 0)
 else if k=15 then(if(kd ks 0).kind=14 then 5 else 0)
 else if k=16 then(if(kd ks 0).kind=14 then 6 else 0)
 else 0
def ctr(k:Int)(ks:List Tr):Tr:=
 if k=5 then sbsT (kd ks 1) (kd (kd ks 0).kids 1) 0 0
 else if k=9 then(if(kd ks 3).kind=7 then kd ks 1 else .mk 5 0 [.mk 5 0 [kd ks 2,kd (kd ks 3).kids 0],.mk 9 0 [kd ks 0,kd ks 1,kd ks 2,kd (kd ks 3).kids 0]])
 else if k=12 then kd ks 2
 else if k=15 then kd (kd ks 0).kids 1
 else kd (kd ks 0).kids 2
def rdxT:Tr->Int
 | .mk k _ ks=> rdx k ks
def ctrT:Tr->Tr
 | .mk k _ ks=> ctr k ks
theorem q88{k:Int}{ks:List Tr}(h:k≠5)(h9:k≠9)(O9:k≠12)(T5:k≠15)(C9:k≠16):rdx k ks=0:=by
 unfold rdx;rw[if_neg h,if_neg h9,if_neg O9,if_neg T5,if_neg C9]
mutual
inductive Par:Tr->Tr->Prop where
 |node {k n:Int} {ks ks':List Tr}:Pars ks ks'->Par (.mk k n ks) (.mk k n ks')
 |red {k n:Int} {ks ks':List Tr}:rdx k ks≠0->Pars ks ks'->Par (.mk k n ks) (ctr k ks')
inductive Pars:List Tr->List Tr->Prop where
 |nil:Pars [] []
 |cons {t t':Tr} {ts ax:List Tr}:Par t t'->Pars ts ax->Pars (t::ts) (t'::ax)
end
mutual
theorem Par.refl: ∀t:Tr,Par t t
 | .mk k n ks=> .node (Pars.refl ks)
theorem Pars.refl: ∀ts:List Tr,Pars ts ts
 | []=> .nil
 |t::ts=> .cons (Par.refl t) (Pars.refl ts)
end
theorem Pars.kd: ∀{a b:List Tr},Pars a b-> ∀i,Par (kd a i) (kd b i)
 |_,_,.nil,i=> by simpa[Go.Proofs.YtbnkbepgmenblaaGreatDoor.kd] using Par.refl y14
 |_,_,.cons h _,0=> by simpa[Go.Proofs.YtbnkbepgmenblaaGreatDoor.kd] using h
 |_,_,.cons _ h,i+1=> by simpa[Go.Proofs.YtbnkbepgmenblaaGreatDoor.kd] using h.kd i
theorem Par.keep{t t':Tr}(h:Par t t')(h5:t.kind≠5)(h9:t.kind≠9)(O9:t.kind≠12)(T5:t.kind≠15)(C9:t.kind≠16):t'.kind=t.kind/\t'.num=t.num/\Pars t.kids t'.kids:=by
 cases h with
 |node h=> exact⟨rfl,rfl,h⟩
 |red h0 h=> exact absurd (q88 h5 h9 O9 T5 C9) h0
theorem Pars.rdx{k:Int}{a b:List Tr}(h:Pars a b)(hr:rdx k a≠0):Go.Proofs.YtbnkbepgmenblaaGreatDoor.rdx k b=Go.Proofs.YtbnkbepgmenblaaGreatDoor.rdx k a:=by
 have key: ∀i c,c=4\/c=7\/c=8\/c=11\/c=14->(Go.Proofs.YtbnkbepgmenblaaGreatDoor.kd a i).kind=c->(Go.Proofs.YtbnkbepgmenblaaGreatDoor.kd b i).kind=c:=fun i c hc he=> by
  have h1:=(h.kd i).keep (by omega) (by omega) (by omega) (by omega) (by omega);rw[h1.1,he]
 unfold Go.Proofs.YtbnkbepgmenblaaGreatDoor.rdx at hr⊢;by_cases h5:k=5
 · rw[if_pos h5,if_pos h5]
   rw[if_pos h5] at hr;by_cases h1:(Go.Proofs.YtbnkbepgmenblaaGreatDoor.kd a 0).kind=4
   · rw[if_pos h1,if_pos (key 0 4 (by omega) h1)]
   · rw[if_neg h1] at hr;exact absurd rfl hr
 rw[if_neg h5,if_neg h5];rw[if_neg h5] at hr;by_cases h9:k=9
 · rw[if_pos h9,if_pos h9]
   rw[if_pos h9] at hr;by_cases h1:(Go.Proofs.YtbnkbepgmenblaaGreatDoor.kd a 3).kind=7
   · rw[if_pos h1,if_pos (key 3 7 (by omega) h1)]
   · rw[if_neg h1] at hr⊢
     by_cases h2:(Go.Proofs.YtbnkbepgmenblaaGreatDoor.kd a 3).kind=8
     · have:=key 3 8 (by omega) h2
       rw[if_pos h2,if_neg (by omega),if_pos this]
     · rw[if_neg h2] at hr;exact absurd rfl hr
 rw[if_neg h9,if_neg h9];rw[if_neg h9] at hr;by_cases O9:k=12
 · rw[if_pos O9,if_pos O9]
   rw[if_pos O9] at hr;by_cases h1:(Go.Proofs.YtbnkbepgmenblaaGreatDoor.kd a 1).kind=11
   · rw[if_pos h1,if_pos (key 1 11 (by omega) h1)]
   · rw[if_neg h1] at hr;exact absurd rfl hr
 rw[if_neg O9,if_neg O9];rw[if_neg O9] at hr;by_cases T5:k=15
 · rw[if_pos T5,if_pos T5]
   rw[if_pos T5] at hr;by_cases h1:(Go.Proofs.YtbnkbepgmenblaaGreatDoor.kd a 0).kind=14
   · rw[if_pos h1,if_pos (key 0 14 (by omega) h1)]
   · rw[if_neg h1] at hr;exact absurd rfl hr
 rw[if_neg T5,if_neg T5];rw[if_neg T5] at hr;by_cases C9:k=16
 · rw[if_pos C9,if_pos C9]
   rw[if_pos C9] at hr;by_cases h1:(Go.Proofs.YtbnkbepgmenblaaGreatDoor.kd a 0).kind=14
   · rw[if_pos h1,if_pos (key 0 14 (by omega) h1)]
   · rw[if_neg h1] at hr;exact absurd rfl hr
 · rw[if_neg C9] at hr;exact absurd rfl hr
theorem j147(y:Int)(k:Int): ∀(ts:List Tr) (i j:Nat) (c:Int),j < ts.length->kd (q20 y k ts i c) j=shfT y (kd ts j) (c+und k (i+j))
 |t::ts,i,0,c,h=> by simp[q20,kd]
 |t::ts,i,j+1,c,h=> by
  have:=j147 y k ts (i+1) j c (by simpa using h);simp only[q20,kd,List.getD_cons_succ] at this⊢;rw[this,show i+1+j=i+(j+1) by omega]
theorem y148(u:Tr)(k:Int): ∀(ts:List Tr) (i j:Nat) (x d:Int),j < ts.length->kd (y21 u k ts i x d) j=sbsT u (kd ts j) (x+und k (i+j)) (d+und k (i+j))
 |t::ts,i,0,x,d,h=> by simp[y21,kd]
 |t::ts,i,j+1,x,d,h=> by
  have:=y148 u k ts (i+1) j x d (by simpa using h);simp only[y21,kd,List.getD_cons_succ] at this⊢;rw[this,show i+1+j=i+(j+1) by omega]
theorem q123{ts:List Tr}{j:Nat}(h:ts.length<=j):kd ts j=y14:=by
 unfold kd;rw[List.getD_eq_getElem?_getD,List.getElem?_eq_none h]
 rfl
theorem q211(y c:Int):shfT y y14 c=y14:=by
 unfold y14;rw[q22,if_neg (fun h=> by omega)]
 rfl
theorem j215(u:Tr)(x d:Int):sbsT u y14 x d=y14:=by
 unfold y14;rw[q15 _ _ (fun h=> by omega),if_neg (fun h=> by omega)]
 rfl
theorem q34(y k:Int)(ts:List Tr)(j:Nat)(c:Int):kd (q20 y k ts 0 c) j=shfT y (kd ts j) (c+und k j):=by
 rcases Nat.lt_or_ge j ts.length with h|h
 · rw[j147 y k ts 0 j c h,Nat.zero_add]
 · rw[q123 h,q123 (by rw[y97];exact h),q211]
theorem q35(u:Tr)(k:Int)(ts:List Tr)(j:Nat)(x d:Int):kd (y21 u k ts 0 x d) j=sbsT u (kd ts j) (x+und k j) (d+und k j):=by
 rcases Nat.lt_or_ge j ts.length with h|h
 · rw[y148 u k ts 0 j x d h,Nat.zero_add]
 · rw[q123 h,q123 (by rw[q120];exact h),j215]
theorem j18{k:Int}(h3:k≠3)(h4:k≠4)(K0:k≠13)(j:Nat):und k j=0:=by
 unfold und;rw[if_neg (by omega)]
theorem j73(y:Int)(t:Tr)(c:Int):(shfT y t c).kind=t.kind/\(shfT y t c).kids=q20 y t.kind t.kids 0 c:=by
 obtain⟨k,n,ks⟩:=t;rw[q22];exact⟨rfl,rfl⟩
theorem j78(u:Tr)(t:Tr)(x d:Int)(h:t.kind≠1):(sbsT u t x d).kind=t.kind/\(sbsT u t x d).kids=y21 u t.kind t.kids 0 x d:=by
 obtain⟨k,n,ks⟩:=t;have hk:k≠1:=h;rw[q15 (k:=k) (n:=n) u ks (fun e=> hk e.1)];exact⟨rfl,rfl⟩
theorem q28{k:Int}{ks:List Tr}(h:rdx k ks≠0):(k=5/\(kd ks 0).kind=4)\/(k=9/\(kd ks 3).kind=7)\/(k=9/\(kd ks 3).kind=8)\/(k=12/\(kd ks 1).kind=11)\/(k=15/\(kd ks 0).kind=14)\/(k=16/\(kd ks 0).kind=14):=by
 unfold rdx at h;by_cases h5:k=5
 · rw[if_pos h5] at h
   by_cases h1:(kd ks 0).kind=4
   · exact .inl ⟨h5,h1⟩
   · rw[if_neg h1] at h;exact absurd rfl h
 rw[if_neg h5] at h;by_cases h9:k=9
 · rw[if_pos h9] at h
   by_cases h1:(kd ks 3).kind=7
   · exact .inr (.inl ⟨h9,h1⟩)
   · rw[if_neg h1] at h
     by_cases h2:(kd ks 3).kind=8
     · exact .inr (.inr (.inl ⟨h9,h2⟩))
     · rw[if_neg h2] at h;exact absurd rfl h
 rw[if_neg h9] at h;by_cases O9:k=12
 · rw[if_pos O9] at h
   by_cases h1:(kd ks 1).kind=11
   · exact .inr (.inr (.inr (.inl ⟨O9,h1⟩)))
   · rw[if_neg h1] at h;exact absurd rfl h
 rw[if_neg O9] at h;by_cases T5:k=15
 · rw[if_pos T5] at h
   by_cases h1:(kd ks 0).kind=14
   · exact .inr (.inr (.inr (.inr (.inl ⟨T5,h1⟩))))
   · rw[if_neg h1] at h;exact absurd rfl h
 rw[if_neg T5] at h;by_cases C9:k=16
 · rw[if_pos C9] at h
   by_cases h1:(kd ks 0).kind=14
   · exact .inr (.inr (.inr (.inr (.inr ⟨C9,h1⟩))))
   · rw[if_neg h1] at h;exact absurd rfl h
 · rw[if_neg C9] at h;exact absurd rfl h
theorem rdx_of{k:Int}{ks:List Tr}(h:(k=5/\(kd ks 0).kind=4)\/(k=9/\(kd ks 3).kind=7)\/(k=9/\(kd ks 3).kind=8)\/(k=12/\(kd ks 1).kind=11)\/(k=15/\(kd ks 0).kind=14)\/(k=16/\(kd ks 0).kind=14)):rdx k ks≠0:=by
 rcases h with⟨rfl,h⟩ |⟨rfl,h⟩ |⟨rfl,h⟩ |⟨rfl,h⟩ |⟨rfl,h⟩ |⟨rfl,h⟩ <;>(unfold rdx;simp[h])
theorem q66{ks:List Tr}:ctr 5 ks=sbsT (kd ks 1) (kd (kd ks 0).kids 1) 0 0:=rfl
theorem j46{ks:List Tr}(h:(kd ks 3).kind=7):ctr 9 ks=kd ks 1:=by unfold ctr;simp[h]
theorem y44{ks:List Tr}(h:(kd ks 3).kind=8):ctr 9 ks= .mk 5 0 [.mk 5 0 [kd ks 2,kd (kd ks 3).kids 0],.mk 9 0 [kd ks 0,kd ks 1,kd ks 2,kd (kd ks 3).kids 0]]:=by unfold ctr;simp[h]
theorem q70{ks:List Tr}:ctr 12 ks=kd ks 2:=rfl
theorem q67{ks:List Tr}:ctr 15 ks=kd (kd ks 0).kids 1:=rfl
theorem y68{ks:List Tr}:ctr 16 ks=kd (kd ks 0).kids 2:=rfl
theorem und4:und 4 1=1:=rfl
theorem q89(y k n:Int)(ks:List Tr)(c:Int)(h:k≠1):shfT y (.mk k n ks) c= .mk k n (q20 y k ks 0 c):=by rw[q22,if_neg (fun e=> h e.1)]
theorem y96(u:Tr)(k n:Int)(ks:List Tr)(x d:Int)(h:k≠1):sbsT u (.mk k n ks) x d= .mk k n (y21 u k ks 0 x d):=by rw[q15 _ _ (fun e=> h e.1),if_neg (fun e=> h e.1)]
theorem j178{k:Int}{ks:List Tr}(h:rdx k ks≠0){y c:Int}(hy:0<=y)(hc:0<=c):rdx k (q20 y k ks 0 c)≠0/\shfT y (ctr k ks) c=ctr k (q20 y k ks 0 c):=by
 have hcs:=q28 h;have kk: ∀j,(kd (q20 y k ks 0 c) j).kind=(kd ks j).kind:=fun j=> by rw[q34];exact(j73 y _ _).1
 refine⟨rdx_of (by simpa only[kk] using hcs), ?_⟩;rcases hcs with⟨rfl,g⟩ |⟨rfl,g⟩ |⟨rfl,g⟩ |⟨rfl,g⟩ |⟨rfl,g⟩ |⟨rfl,g⟩
 · rw[q66,q66,q34,q34,(j73 y _ _).2,g,q34,und4,j18 (by decide) (by decide) (by decide),j18 (by decide) (by decide) (by decide),Int.add_zero,y211 _ _ hy hc]
 · rw[j46 g,j46 (by rw[kk,g]),q34,j18 (by decide) (by decide) (by decide),Int.add_zero]
 · rw[y44 g,y44 (by rw[kk,g])]
   rw[q34,q34,q34,q34,(j73 y _ _).2,g,q34];simp only[j18 (show(9:Int)≠3 by decide) (by decide) (by decide),j18 (show(8:Int)≠3 by decide) (by decide) (by decide),Int.add_zero];rw[q89 _ 5 _ _ _ (by decide)];simp only[q20,j18 (show(5:Int)≠3 by decide) (by decide) (by decide),Int.add_zero];rw[q89 _ 5 _ _ _ (by decide),q89 _ 9 _ _ _ (by decide)];simp only[q20,j18 (show(5:Int)≠3 by decide) (by decide) (by decide),j18 (show(9:Int)≠3 by decide) (by decide) (by decide),Int.add_zero]
 · rw[q70,q70,q34,j18 (by decide) (by decide) (by decide),Int.add_zero]
 · rw[q67,q67,q34,(j73 y _ _).2,g,q34,j18 (by decide) (by decide) (by decide),j18 (by decide) (by decide) (by decide),Int.add_zero,Int.add_zero]
 · rw[y68,y68,q34,(j73 y _ _).2,g,q34,j18 (by decide) (by decide) (by decide),j18 (by decide) (by decide) (by decide),Int.add_zero,Int.add_zero]
theorem q162{k:Int}{ks:List Tr}(h:rdx k ks≠0)(u:Tr){x d:Int}(hx:0<=x)(hd:0<=d):rdx k (y21 u k ks 0 x d)≠0/\sbsT u (ctr k ks) x d=ctr k (y21 u k ks 0 x d):=by
 have hcs:=q28 h;have kk: ∀j,(kd ks j).kind≠1->(kd (y21 u k ks 0 x d) j).kind=(kd ks j).kind:=fun j hj=> by rw[q35];exact(j78 u _ _ _ hj).1
 refine⟨rdx_of ?_, ?_⟩
 · rcases hcs with⟨h1,g⟩ |⟨h1,g⟩ |⟨h1,g⟩ |⟨h1,g⟩ |⟨h1,g⟩ |⟨h1,g⟩
   · exact .inl ⟨h1,by rw[kk _ (by omega),g]⟩
   · exact .inr (.inl ⟨h1,by rw[kk _ (by omega),g]⟩)
   · exact .inr (.inr (.inl ⟨h1,by rw[kk _ (by omega),g]⟩))
   · exact .inr (.inr (.inr (.inl ⟨h1,by rw[kk _ (by omega),g]⟩)))
   · exact .inr (.inr (.inr (.inr (.inl ⟨h1,by rw[kk _ (by omega),g]⟩))))
   · exact .inr (.inr (.inr (.inr (.inr ⟨h1,by rw[kk _ (by omega),g]⟩))))
 rcases hcs with⟨rfl,g⟩ |⟨rfl,g⟩ |⟨rfl,g⟩ |⟨rfl,g⟩ |⟨rfl,g⟩ |⟨rfl,g⟩
 · rw[q66,q66,q35,q35,(j78 u _ _ _ (by omega)).2,g,q35,und4,j18 (by decide) (by decide) (by decide),j18 (by decide) (by decide) (by decide),Int.add_zero,Int.add_zero,j203 _ _ _ hx hd]
 · rw[j46 g,j46 (by rw[kk _ (by omega),g]),q35,j18 (by decide) (by decide) (by decide),Int.add_zero,Int.add_zero]
 · rw[y44 g,y44 (by rw[kk _ (by omega),g])]
   rw[q35,q35,q35,q35,(j78 u _ _ _ (by omega)).2,g,q35];simp only[j18 (show(9:Int)≠3 by decide) (by decide) (by decide),j18 (show(8:Int)≠3 by decide) (by decide) (by decide),Int.add_zero];rw[y96 _ 5 _ _ _ _ (by decide)];simp only[y21,j18 (show(5:Int)≠3 by decide) (by decide) (by decide),Int.add_zero];rw[y96 _ 5 _ _ _ _ (by decide),y96 _ 9 _ _ _ _ (by decide)];simp only[y21,j18 (show(5:Int)≠3 by decide) (by decide) (by decide),j18 (show(9:Int)≠3 by decide) (by decide) (by decide),Int.add_zero]
 · rw[q70,q70,q35,j18 (by decide) (by decide) (by decide),Int.add_zero,Int.add_zero]
 · rw[q67,q67,q35,(j78 u _ _ _ (by omega)).2,g,q35,j18 (by decide) (by decide) (by decide),j18 (by decide) (by decide) (by decide)]
   simp only[Int.add_zero]
 · rw[y68,y68,q35,(j78 u _ _ _ (by omega)).2,g,q35,j18 (by decide) (by decide) (by decide),j18 (by decide) (by decide) (by decide)]
   simp only[Int.add_zero]
mutual
theorem Par.shf{y:Int}(hy:0<=y): ∀{t t':Tr} (c:Int),0<=c->Par t t'->Par (shfT y t c) (shfT y t' c)
 |_,_,c,hc,.node h=> by
  rw[q22,q22];exact .node (Pars.shf hy _ 0 c hc h)
 |_,_,c,hc,.red (k:=k) (n:=n) (ks:=ks) (ks':=ks') h0 h=> by
  have h1:=j178 (show rdx k ks'≠0 by rw[h.rdx h0];exact h0) hy hc;rw[q22,h1.2];exact .red (j178 h0 hy hc).1 (Pars.shf hy _ 0 c hc h)
theorem Pars.shf{y:Int}(hy:0<=y): ∀{ts ax:List Tr} (k:Int) (i:Nat) (c:Int),0<=c->Pars ts ax->Pars (q20 y k ts i c) (q20 y k ax i c)
 |_,_,k,i,c,hc,.nil=> .nil
 |_,_,k,i,c,hc,.cons h hs=> by
  have:=y64 k i;simp only[q20];exact .cons (Par.shf hy _ (by omega) h) (Pars.shf hy k (i+1) c hc hs)
end
mutual
theorem Par.sbs{u u':Tr}(hu:Par u u'): ∀{t t':Tr} (x d:Int),0<=x->0<=d->Par t t'->Par (sbsT u t x d) (sbsT u' t' x d)
 |_,_,x,d,hx,hd,.node (k:=k) (n:=n) h=> by
  by_cases hv:k=1/\n=x
  · rw[y30 _ _ hv,y30 _ _ hv]
    exact hu.shf hd 0 (Int.le_refl _)
  · rw[q15 _ _ hv,q15 _ _ hv]
    exact .node (Pars.sbs hu _ 0 x d hx hd h)
 |_,_,x,d,hx,hd,.red (k:=k) (n:=n) (ks:=ks) (ks':=ks') h0 h=> by
  have h1:=q162 (show rdx k ks'≠0 by rw[h.rdx h0];exact h0) u' hx hd;have hv: ¬(k=1/\n=x):=fun e=> h0 (q88 (by omega) (by omega) (by omega) (by omega) (by omega))
  rw[q15 _ _ hv,h1.2];exact .red (q162 h0 u hx hd).1 (Pars.sbs hu _ 0 x d hx hd h)
theorem Pars.sbs{u u':Tr}(hu:Par u u'): ∀{ts ax:List Tr} (k:Int) (i:Nat) (x d:Int),0<=x->0<=d->Pars ts ax->Pars (y21 u k ts i x d) (y21 u' k ax i x d)
 |_,_,k,i,x,d,hx,hd,.nil=> .nil
 |_,_,k,i,x,d,hx,hd,.cons h hs=> by
  have:=y64 k i;simp only[y21];exact .cons (Par.sbs hu _ _ (by omega) (by omega) h) (Pars.sbs hu k (i+1) x d hx hd hs)
end
theorem Par.kids_of{t t':Tr}(h:Par t t')(hk:t.kind=4\/t.kind=7\/t.kind=8\/t.kind=11\/t.kind=14):t'.kind=t.kind/\Pars t.kids t'.kids:=by
 have:=h.keep (by omega) (by omega) (by omega) (by omega) (by omega);exact⟨this.1,this.2.2⟩
theorem Pars.ctr{k:Int}{a b:List Tr}(h:Pars a b)(h0:Go.Proofs.YtbnkbepgmenblaaGreatDoor.rdx k a≠0):Par (Go.Proofs.YtbnkbepgmenblaaGreatDoor.ctr k a) (Go.Proofs.YtbnkbepgmenblaaGreatDoor.ctr k b):=by
 have hcs:=q28 h0;rcases hcs with⟨rfl,h1⟩ |⟨rfl,h1⟩ |⟨rfl,h1⟩ |⟨rfl,h1⟩ |⟨rfl,h1⟩ |⟨rfl,h1⟩
 · rw[q66,q66]
   exact(h.kd 1).sbs 0 0 (Int.le_refl _) (Int.le_refl _) (((h.kd 0).kids_of (by omega)).2.kd 1)
 · rw[j46 h1,j46 (by rw[((h.kd 3).kids_of (by omega)).1];exact h1)]
   exact h.kd 1
 · rw[y44 h1,y44 (by rw[((h.kd 3).kids_of (by omega)).1];exact h1)]
   have ha:=((h.kd 3).kids_of (by omega)).2.kd 0;exact .node (.cons (.node (.cons (h.kd 2) (.cons ha .nil))) (.cons (.node (.cons (h.kd 0) (.cons (h.kd 1) (.cons (h.kd 2) (.cons ha .nil))))) .nil))
 · exact h.kd 2
 · rw[q67,q67]
   exact((h.kd 0).kids_of (by omega)).2.kd 1
 · rw[y68,y68]
   exact((h.kd 0).kids_of (by omega)).2.kd 2
mutual
def dev:Tr->Tr
 | .mk k n ks=> if rdx k ks≠0 then ctr k (devs ks) else .mk k n (devs ks)
def devs:List Tr->List Tr
 | []=> []
 |t::ts=> dev t::devs ts
end
theorem dev_mk(k n:Int)(ks:List Tr):dev (.mk k n ks)=if rdx k ks≠0 then ctr k (devs ks) else .mk k n (devs ks):=by
 conv=> lhs;unfold dev
mutual
theorem Par.tri: ∀{t t':Tr},Par t t'->Par t' (dev t)
 |_,_,.node (k:=k) (n:=n) (ks:=ks) h=> by
  have h1:=h.tri;rw[dev_mk];by_cases h0:rdx k ks≠0
  · rw[if_pos h0]
    exact .red (by rw[h.rdx h0];exact h0) h1
  · rw[if_neg h0]
    exact .node h1
 |_,_,.red (k:=k) (n:=n) (ks:=ks) h0 h=> by
  have h1:=h.tri;rw[dev_mk,if_pos h0];exact h1.ctr (by rw[h.rdx h0];exact h0)
theorem Pars.tri: ∀{ts ax:List Tr},Pars ts ax->Pars ax (devs ts)
 |_,_,.nil=> .nil
 |_,_,.cons h hs=> .cons h.tri hs.tri
end
inductive Reds:Tr->Tr->Prop where
 |refl (t:Tr):Reds t t
 |step {a b c:Tr}:Reds a b->Par b c->Reds a c
theorem Reds.trans{a b c:Tr}(h:Reds a b)(k:Reds b c):Reds a c:=by
 induction k with
 |refl=> exact h
 |step _ p ih=> exact .step ih p
theorem Reds.one{a b:Tr}(h:Par a b):Reds a b:= .step (.refl a) h
theorem Reds.strip{a b:Tr}(h:Reds a b): ∀{c:Tr},Par a c-> ∃d,Par b d/\Reds c d:=by
 induction h with
 |refl=> exact fun{c} p=>⟨c,p,.refl c⟩
 |step _ p ih=>
  intro c q;obtain⟨d,h1,h2⟩:=ih q;exact⟨_,p.tri,.step h2 h1.tri⟩
theorem Reds.meet{a b:Tr}(h:Reds a b): ∀{c:Tr},Reds a c-> ∃d,Reds b d/\Reds c d:=by
 induction h with
 |refl=> exact fun{c} p=>⟨c,p,.refl c⟩
 |step _ p ih=>
  intro c q;obtain⟨d,h1,h2⟩:=ih q;obtain⟨e,h3,h4⟩:=h1.strip p;exact⟨e,h4,.step h2 h3⟩
mutual
def nrm:Tr->Bool
 | .mk k _ ks=> decide (rdx k ks=0)&& nrms ks
def nrms:List Tr->Bool
 | []=> true
 |t::ts=> nrm t && nrms ts
end
mutual
theorem Par.normal: ∀{t t':Tr},Par t t'->nrm t=true->t'=t
 |_,_,.node (k:=k) (n:=n) (ks:=ks) h,hn=> by
  simp only[nrm,Bool.and_eq_true] at hn;rw[Pars.normal h hn.2]
 |_,_,.red h0 _,hn=> by
  simp only[nrm,Bool.and_eq_true,decide_eq_true_eq] at hn;exact absurd hn.1 h0
theorem Pars.normal: ∀{ts ax:List Tr},Pars ts ax->nrms ts=true->ax=ts
 |_,_,.nil,_=> rfl
 |_,_,.cons h hs,hn=> by
  simp only[nrms,Bool.and_eq_true] at hn;rw[Par.normal h hn.1,Pars.normal hs hn.2]
end
theorem Reds.normal{a b:Tr}(h:Reds a b)(hn:nrm a=true):b=a:=by
 induction h with
 |refl=> rfl
 |step _ p ih=> subst ih;exact p.normal hn
theorem Reds.unique{a b c:Tr}(h:Reds a b)(k:Reds a c)(hb:nrm b=true)(hc:nrm c=true):b=c:=by
 obtain⟨d,h1,h2⟩:=h.meet k;rw[<-h1.normal hb,<-h2.normal hc]
theorem Reds.sbs{a b:Tr}(h:Reds a b)(u:Tr){x d:Int}(hx:0<=x)(hd:0<=d):Reds (sbsT u a x d) (sbsT u b x d):=by
 induction h with
 |refl=> exact .refl _
 |step _ p ih=> exact .step ih ((Par.refl u).sbs x d hx hd p)
end Go.Proofs.YtbnkbepgmenblaaGreatDoor
