/- Lemmas towards the law. -/
import Derived.Test.YtckhbnmfnpolgaaGreatTAD
import Derived.Test.YtckhbnmfnpolgaaGreatTAU
open Prod.mk renaming injEq->cQ
open Bool renaming and_eq_true->aX
open Go renaming World->aN,Value->aU
open Option.some renaming injEq->cM
open Nat renaming le_trans->bM,lt_of_lt_of_le->aZ
open Go.RowKit.Below renaming heap_setCell->aM
set_option linter.all false
namespace Go.Proofs.YtckhbnmfnpolgaaGreat
open Go.RowKit
open M (Hd HR Cv)
theorem Xd{k:Int}(n:Int)(a:List Tr)(h: ¬(k=5\/k=9\/k=12\/k=15\/k=16)):U4 (.mk k n a)=([],false):=by
 have b:rdx k a=0:=Pn (by omega) (by omega) (by omega) (by omega) (by omega);rw[U4,if_neg (by rw[b];decide),if_neg (by omega),if_neg (by omega),if_neg (by omega)]
def MC(t:M.Tm):Prop:=(∀p,U4 (enc t)=(p,true)-> ∃u,conA (enc t) p=enc u/\Hd t u)/\((U4 (enc t)).2=false-> ∀u,¬Hd t u)
theorem MC.leaf{t:M.Tm}(h:U4 (enc t)=([],false))(no: ∀u,¬Hd t u):MC t:=
 ⟨fun p e=> by rw[h] at e;simp at e,fun _=> no⟩
theorem MC.root{t u:M.Tm}(h:U4 (enc t)=([],true))(e:ctrT (enc t)=enc u)(k:Hd t u):MC t:=
 ⟨fun p q=> by
  rw[h] at q;simp only[cQ,and_true] at q;subst q;exact⟨u,by rw[Wv,e],k⟩,fun q=> by rw[h] at q;cases q⟩
theorem Sv: ∀t:M.Tm,MC t:=by
 intro t
 induction t with
 |var n=> exact .leaf (Xd _ _ (by omega)) fun u h=> by cases h
 |sort n=> exact .leaf (Xd _ _ (by omega)) fun u h=> by cases h
 |pi A B=> exact .leaf (Xd _ _ (by omega)) fun u h=> by cases h
 |lam A B=> exact .leaf (Xd _ _ (by omega)) fun u h=> by cases h
 |nat=> exact .leaf (Xd _ _ (by omega)) fun u h=> by cases h
 |zero=> exact .leaf (Xd _ _ (by omega)) fun u h=> by cases h
 |succ a=> exact .leaf (Xd _ _ (by omega)) fun u h=> by cases h
 |id T a b=> exact .leaf (Xd _ _ (by omega)) fun u h=> by cases h
 |refl a=> exact .leaf (Xd _ _ (by omega)) fun u h=> by cases h
 |sg A B=> exact .leaf (Xd _ _ (by omega)) fun u h=> by cases h
 |pair T a b=> exact .leaf (Xd _ _ (by omega)) fun u h=> by cases h
 |app f a d E=>
  by_cases hl: ∃A b,f= .lam A b
  · obtain⟨A,b,rfl⟩:=hl
    exact .root (by simp[enc,U4,rdx,kd,Tr.kind]) (Yp b a) (.beta A b a)
  · have hk:(enc f).kind≠4:=by intro h;cases f <;> simp[enc,Tr.kind] at h;exact hl ⟨_,_,rfl⟩
    have D: ¬rdx 5 [enc f,enc a]≠0:=fun h=> by
     rcases Pm h with h|h|h|h|h|h <;> first|exact hk h.2|omega
    have e:U4 (enc (.app f a))=(((0:Nat):Int)::(U4 (enc f)).1,(U4 (enc f)).2):=by
     show U4 (.mk 5 0 [enc f,enc a])=_
     rw[U4,if_neg D,if_pos (.inl rfl),q8]
     rfl
    refine⟨fun p h=> ?_,fun h u C=> ?_⟩
    · rw[e] at h
      simp only[cQ] at h;obtain⟨rfl,c⟩:=h;obtain⟨u,j,l⟩:=d.1 _ (by rw[<-c]);refine⟨.app u a, ?_,.app a l⟩
      show conA (.mk 5 0 [enc f,enc a]) _=_
      rw[cy (k:=5) (n:=0) (ks:= [enc f,enc a]) (i:=0) (p:=(U4 (enc f)).1) (by simp) (Xg (enc f) _ (by rw[<-c]))]
      show Tr.mk 5 0 [conA (enc f) _,enc a]=_
      rw[j]
      rfl
    · rw[e] at h
      cases C with
      |beta=> exact hl ⟨_,_,rfl⟩
      |app _ r=> exact d.2 h _ r
 |elim p z s a d E K J=>
  by_cases H:a= .zero
  · subst H
    exact .root (by simp[enc,U4,rdx,kd,Tr.kind]) rfl (.ez p z s)
  by_cases hl: ∃b,a= .succ b
  · obtain⟨b,rfl⟩:=hl
    exact .root (by simp[enc,U4,rdx,kd,Tr.kind]) rfl (.es p z s b)
  · have hk:(enc a).kind≠7:=by intro h;cases a <;> simp[enc,Tr.kind] at h;exact H rfl
    have F:(enc a).kind≠8:=by intro h;cases a <;> simp[enc,Tr.kind] at h;exact hl ⟨_,rfl⟩
    have D: ¬rdx 9 [enc p,enc z,enc s,enc a]≠0:=fun h=> by
     rcases Pm h with h|h|h|h|h|h <;> first|exact hk h.2|exact F h.2|omega
    have e:U4 (enc (.elim p z s a))=(((3:Nat):Int)::(U4 (enc a)).1,(U4 (enc a)).2):=by
     show U4 (.mk 9 0 [enc p,enc z,enc s,enc a])=_
     rw[U4,if_neg D,if_neg (by omega),if_pos rfl,q8,q8,q8,q8]
     rfl
    refine⟨fun q h=> ?_,fun h u C=> ?_⟩
    · rw[e] at h
      simp only[cQ] at h;obtain⟨rfl,c⟩:=h;obtain⟨u,j,l⟩:=J.1 _ (by rw[<-c]);refine⟨.elim p z s u, ?_,.elim p z s l⟩
      show conA (.mk 9 0 [enc p,enc z,enc s,enc a]) _=_
      rw[cy (k:=9) (n:=0) (ks:= [enc p,enc z,enc s,enc a]) (i:=3) (p:=(U4 (enc a)).1) (by simp) (Xg (enc a) _ (by rw[<-c]))]
      show Tr.mk 9 0 [enc p,enc z,enc s,conA (enc a) _]=_
      rw[j]
      rfl
    · rw[e] at h
      cases C with
      |ez=> exact H rfl
      |es=> exact hl ⟨_,rfl⟩
      |elim _ _ _ r=> exact J.2 h _ r
 |move p m a d E K=>
  by_cases hl: ∃b,m= .refl b
  · obtain⟨b,rfl⟩:=hl
    exact .root (by simp[enc,U4,rdx,kd,Tr.kind]) rfl (.mr p b a)
  · have hk:(enc m).kind≠11:=by intro h;cases m <;> simp[enc,Tr.kind] at h;exact hl ⟨_,rfl⟩
    have D: ¬rdx 12 [enc p,enc m,enc a]≠0:=fun h=> by
     rcases Pm h with h|h|h|h|h|h <;> first|exact hk h.2|omega
    have e:U4 (enc (.move p m a))=(((1:Nat):Int)::(U4 (enc m)).1,(U4 (enc m)).2):=by
     show U4 (.mk 12 0 [enc p,enc m,enc a])=_
     rw[U4,if_neg D,if_neg (by omega),if_neg (by omega),if_pos rfl,q8,q8]
     rfl
    refine⟨fun q h=> ?_,fun h u C=> ?_⟩
    · rw[e] at h
      simp only[cQ] at h;obtain⟨rfl,c⟩:=h;obtain⟨u,j,l⟩:=E.1 _ (by rw[<-c]);refine⟨.move p u a, ?_,.move p a l⟩
      show conA (.mk 12 0 [enc p,enc m,enc a]) _=_
      rw[cy (k:=12) (n:=0) (ks:= [enc p,enc m,enc a]) (i:=1) (p:=(U4 (enc m)).1) (by simp) (Xg (enc m) _ (by rw[<-c]))]
      show Tr.mk 12 0 [enc p,conA (enc m) _,enc a]=_
      rw[j]
      rfl
    · rw[e] at h
      cases C with
      |mr=> exact hl ⟨_,rfl⟩
      |move _ _ r=> exact E.2 h _ r
 |fst a d=>
  by_cases hl: ∃T x y,a= .pair T x y
  · obtain⟨T,x,y,rfl⟩:=hl
    exact .root (by simp[enc,U4,rdx,kd,Tr.kind]) rfl (.fp T x y)
  · have hk:(enc a).kind≠14:=by intro h;cases a <;> simp[enc,Tr.kind] at h;exact hl ⟨_,_,_,rfl⟩
    have D: ¬rdx 15 [enc a]≠0:=fun h=> by
     rcases Pm h with h|h|h|h|h|h <;> first|exact hk h.2|omega
    have e:U4 (enc (.fst a))=(((0:Nat):Int)::(U4 (enc a)).1,(U4 (enc a)).2):=by
     show U4 (.mk 15 0 [enc a])=_
     rw[U4,if_neg D,if_pos (.inr (.inl rfl)),q8]
     rfl
    refine⟨fun q h=> ?_,fun h u C=> ?_⟩
    · rw[e] at h
      simp only[cQ] at h;obtain⟨rfl,c⟩:=h;obtain⟨u,j,l⟩:=d.1 _ (by rw[<-c]);refine⟨.fst u, ?_,.fst l⟩
      show conA (.mk 15 0 [enc a]) _=_
      rw[cy (k:=15) (n:=0) (ks:= [enc a]) (i:=0) (p:=(U4 (enc a)).1) (by simp) (Xg (enc a) _ (by rw[<-c]))]
      show Tr.mk 15 0 [conA (enc a) _]=_
      rw[j]
      rfl
    · rw[e] at h
      cases C with
      |fp=> exact hl ⟨_,_,_,rfl⟩
      |fst r=> exact d.2 h _ r
 |snd a d=>
  by_cases hl: ∃T x y,a= .pair T x y
  · obtain⟨T,x,y,rfl⟩:=hl
    exact .root (by simp[enc,U4,rdx,kd,Tr.kind]) rfl (.sp T x y)
  · have hk:(enc a).kind≠14:=by intro h;cases a <;> simp[enc,Tr.kind] at h;exact hl ⟨_,_,_,rfl⟩
    have D: ¬rdx 16 [enc a]≠0:=fun h=> by
     rcases Pm h with h|h|h|h|h|h <;> first|exact hk h.2|omega
    have e:U4 (enc (.snd a))=(((0:Nat):Int)::(U4 (enc a)).1,(U4 (enc a)).2):=by
     show U4 (.mk 16 0 [enc a])=_
     rw[U4,if_neg D,if_pos (.inr (.inr rfl)),q8]
     rfl
    refine⟨fun q h=> ?_,fun h u C=> ?_⟩
    · rw[e] at h
      simp only[cQ] at h;obtain⟨rfl,c⟩:=h;obtain⟨u,j,l⟩:=d.1 _ (by rw[<-c]);refine⟨.snd u, ?_,.snd l⟩
      show conA (.mk 16 0 [enc a]) _=_
      rw[cy (k:=16) (n:=0) (ks:= [enc a]) (i:=0) (p:=(U4 (enc a)).1) (by simp) (Xg (enc a) _ (by rw[<-c]))]
      show Tr.mk 16 0 [conA (enc a) _]=_
      rw[j]
      rfl
    · rw[e] at h
      cases C with
      |sp=> exact hl ⟨_,_,_,rfl⟩
      |snd r=> exact d.2 h _ r
theorem ZC: ∀(f:Nat) (A:M.Tm) (x:Tr),pa f (enc A)=(x,0)-> ∃B,x=enc B/\HR A B/\ ∀C,¬Hd B C
 |0,A,x,h=> by
  cases e:hdQ (enc A) with
  |none=>
   rw[uA e] at h;simp only[cQ,and_true] at h;exact⟨A,h.symm,.refl A,(Sv A).2 (Yy e)⟩
  |some p=> rw[DF e] at h;cases h
 |f+1,A,x,h=> by
  cases e:hdQ (enc A) with
  |none=>
   rw[uA e] at h;simp only[cQ,and_true] at h;exact⟨A,h.symm,.refl A,(Sv A).2 (Yy e)⟩
  |some p=>
   by_cases hc:valid sigT (conA (enc A) p)=true
   · rw[pr e hc] at h
     obtain⟨u,d,a⟩:=(Sv A).1 p (rC e);rw[d] at h;obtain⟨B,b,i,c⟩:=ZC f u x h;exact⟨B,b,.step a i,c⟩
   · rw[Tn e (Bool.eq_false_iff.2 hc)] at h
     cases h
theorem nj{A:M.Tm}{x:Tr}{f:Int}(h:b8 (enc A) f=(x,0)): ∃B,x=enc B/\HR A B/\(∀C,¬Hd B C)/\valid sigT (enc B)=true:=by
 have hv:=(BA h).2.2.2;unfold b8 at h
 split at h
 · obtain⟨B,rfl,b,a⟩:=ZC _ A x h
   exact⟨B,rfl,b,a,hv⟩
 · cases h
theorem Us{A B c:M.Tm}(h:HR A B)(hs: ∀C,¬Hd B C)(k:HR A c)(hc:M.hk c≠0):B=c:=by
 have:=h.after k hc;cases this with
 |refl=> rfl
 |step a _=> exact absurd a (hs _)
theorem eG{A B:M.Tm}(h:ge (enc A) (enc B) 200=1):Cv A B:=by
 unfold ge at h
 split at h
 · rename_i hv
   simp only[aX] at hv
   split at h
   · rename_i e
     rw[wd e];exact Cv.rfl' _
   · split at h
     · rename_i a
       split at h
       · rename_i d
         obtain⟨b,-,-⟩:=wE (200:Int).toNat (enc A) (P5 (200:Int).toNat (enc A)).1 hv.1 (by rw[<-a.1]);obtain⟨c,-,-⟩:=wE (200:Int).toNat (enc B) (P5 (200:Int).toNat (enc B)).1 hv.2.1 (by rw[<-a.2]);obtain⟨m,j,k⟩:=CB b rfl;obtain⟨i,l,n⟩:=CB c rfl;have:m=i:=wd (by rw[<-j,<-l,d]);subst this;exact⟨m,k,n⟩
       · simp at h
     · simp at h
 · simp at h
theorem Xo{A B:M.Tm}(h:ge (enc A) (enc B) 200=2): ¬Cv A B:=by
 intro hc;unfold ge at h
 split at h
 · rename_i hv
   simp only[aX] at hv
   split at h
   · simp at h
   · split at h
     · rename_i e
       split at h
       · simp at h
       · rename_i m
         obtain⟨k,a,-⟩:=wE (200:Int).toNat (enc A) (P5 (200:Int).toNat (enc A)).1 hv.1 (by rw[<-e.1]);obtain⟨l,b,-⟩:=wE (200:Int).toNat (enc B) (P5 (200:Int).toNat (enc B)).1 hv.2.1 (by rw[<-e.2]);obtain⟨C,i,p⟩:=hc;obtain⟨r,n,c⟩:=k.meet (WB i);obtain⟨q,j,d⟩:=l.meet (WB p);rw[n.normal a] at c;rw[j.normal b] at d;exact m (i8.unique c d a b)
     · simp at h
 · simp at h
theorem vv{A B:M.Tm}(h:W3 (enc A) (enc B)=0):Cv A B:=eG (Rp h)
theorem Vj{A B:M.Tm}(h:Cv A B):W3 (enc A) (enc B)=0\/W3 (enc A) (enc B)=2:=by
 unfold W3
 split
 · exact .inl rfl
 · split
   · rename_i a
     exact absurd h (Xo a)
   · exact .inr rfl
theorem Tu{B:M.Tm}(h:(enc B).kind=2): ∃n,B= .sort n:=by
 cases B <;> simp[enc,Tr.kind] at h;exact⟨_,rfl⟩
theorem XC{B:M.Tm}(h:(enc B).kind=3): ∃C R,B= .pi C R:=by
 cases B <;> simp[enc,Tr.kind] at h;exact⟨_,_,rfl⟩
theorem Zj{B:M.Tm}(h:(enc B).kind=10): ∃T a b,B= .id T a b:=by
 cases B <;> simp[enc,Tr.kind] at h;exact⟨_,_,_,rfl⟩
theorem Mv{B:M.Tm}(h:(enc B).kind=13): ∃C R,B= .sg C R:=by
 cases B <;> simp[enc,Tr.kind] at h;exact⟨_,_,rfl⟩
end Go.Proofs.YtckhbnmfnpolgaaGreat
namespace Go.Proofs.YtckhbnmfnpolgaaGreat
open Go.RowKit
theorem oA{w:aN}{base:Nat}{v:aU}{p:List Int}(h:w.ownsRow base 3 1 v p.length (p.map (Value.int .i64))): ∃B c,v= .slice B p.length c/\pm w B p.length c p:=by
 obtain⟨B,c,rfl,d,a,b⟩:=Nv h;exact⟨B,c,rfl,rfl,d,a,b⟩
end Go.Proofs.YtckhbnmfnpolgaaGreat
namespace Go.Proofs.YtckhbnmfnpolgaaGreat
open Go.RowKit
open M (Hd HR Cv Ty j2 rc a7 O5)
def ctxE(G:List M.Tm):List Tr:=(G.map enc).reverse
theorem q28(G:List M.Tm):(ctxE G).length=G.length:=by simp[ctxE]
theorem de(A:M.Tm)(G:List M.Tm):ctxE (A::G)=ctxE G++ [enc A]:=by simp[ctxE]
theorem TJ{G:List M.Tm}{n:Nat}(h:n < G.length):kd (ctxE G) (G.length - 1 - n)=enc G[n]:=by
 unfold kd ctxE;rw[List.getD_eq_getElem?_getD,List.getElem?_reverse (by simp;omega)];simp only[List.length_map,List.getElem?_map];rw[show G.length - 1 -(G.length - 1 - n)=n by omega,List.getElem?_eq_getElem h]
 rfl
theorem uq(p:M.Tm):Oc (enc p)=enc (M.stepTy p):=by
 have b:=Wj 1 p 0;have a:=Wj 2 p 0;rw[Xw] at b a;unfold Oc M.stepTy;simp only[enc,L6,Qg];rw[show shfT 1 (enc p) 0=enc (p.ren fun i=> i+1) from b,show shfT 2 (enc p) 0=enc (p.ren fun i=> i+2) from a]
 rfl
theorem DD{G:List M.Tm}{n:Nat}(h:n < G.length):Oj (ctxE G) (n:Int)=mkV (enc (G[n].ren fun i=> i+(n+1))):=by
 unfold Oj;rw[if_neg (by rw[q28];omega),q28,show(n:Int).toNat=n by omega,TJ h];have:=Wj (n+1) G[n] 0;rw[Xw] at this;rw[<-this]
 rfl
theorem Px{G:List M.Tm}{n:Nat}(h:n < G.length):M.lk G n=some (G[n].ren fun i=> i+(n+1)):=by
 unfold M.lk;rw[List.getElem?_eq_getElem h]
 rfl
section
variable (f : Nat) (G : List Tr)
theorem CA{k:Int}{a:List Tr}{i:Nat}(h:T4 k i=0):Ma (P0 f) G k a i=P0 f G (kd a i):=by unfold Ma;rw[if_pos h]
theorem To{k:Int}{a:List Tr}(h:T4 k 1=1):Ma (P0 f) G k a 1=if 20<=G.length then some (D2,2) else P0 f (G++ [kd a 0]) (kd a 1):=by unfold Ma;rw[if_neg (by rw[h];decide)]
end
theorem yL{f:Nat}{G:List Tr}{k:Int}{a:List Tr}{i:Nat}{r:Tr×Int}(h:T4 k i=0)(e:Ma (P0 f) G k a i=some r):P0 f G (kd a i)=some r:=by rwa [CA f G h] at e
theorem Qu{f:Nat}{G:List Tr}{k:Int}{a:List Tr}{s:Tr}(h:T4 k 1=1)(e:Ma (P0 f) G k a 1=some (s,0)):G.length < 20/\P0 f (G++ [kd a 0]) (kd a 1)=some (s,0):=by
 rw[To f G h] at e
 split at e
 · simp at e
 · exact⟨by omega,e⟩
theorem Z0{k n:Int}{a:List Tr}{x:Tr}(h:valid sigT (.mk k n a)=true)(hm:x∈a):valid sigT x=true:=wA h hm
structure y6 (G:List M.Tm):Prop where
 wf:rc G
 vd: ∀A∈G,valid sigT (enc A)=true
theorem y6.nil:y6 []:=⟨rc.nil,fun _ h=> by simp at h⟩
theorem y6.cons{G:List M.Tm}{A:M.Tm}(h:y6 G)(b:a7 G A)(v:valid sigT (enc A)=true):y6 (A::G):=
 ⟨h.wf.cons b,fun B a=> by
  rcases List.mem_cons.1 a with rfl|a
  · exact v
  · exact h.vd B a⟩
def tv(f:Nat):Prop:= ∀(G:List M.Tm) (t:M.Tm) (x:Tr),y6 G->valid sigT (enc t)=true->P0 f (ctxE G) (enc t)=some (x,0)-> ∃A,x=enc A/\Ty G t A/\j2 G t/\valid sigT (enc A)=true
theorem pe{f:Nat}(ih:tv f){G:List M.Tm}{A:M.Tm}{s:Tr}(hG:y6 G)(hv:valid sigT (enc A)=true)(h:Q0 (P0 f (ctxE G) (enc A)) 2=some (s,0)): ∃S i,s=enc (.sort i)/\Ty G A S/\HR S (.sort i)/\j2 G A/\a7 G A/\i<=3:=by
 obtain⟨u,e,d,c⟩:=vf h;obtain⟨S,rfl,a,b,j⟩:=ih G A u hG hv e;obtain⟨B,rfl,r,-,-⟩:=nj d;obtain⟨i,rfl⟩:=Tu c;have hi:=M.lev_le (j2.type a hG.wf b) r;exact⟨S,i,rfl,a,r,b,⟨b,i,hi,S,a,r⟩,hi⟩
theorem Vk{f:Nat}(ih:tv f){G:List M.Tm}{t:M.Tm}{s:Tr}(hG:y6 G)(hv:valid sigT (enc t)=true)(h:Q0 (P0 f (ctxE G) (enc t)) 3=some (s,0)): ∃F C R,s=enc (.pi C R)/\Ty G t F/\HR F (.pi C R)/\j2 G t/\valid sigT (enc C)=true/\valid sigT (enc R)=true:=by
 obtain⟨u,i,d,b⟩:=vf h;obtain⟨F,rfl,c,e,j⟩:=ih G t u hG hv i;obtain⟨B,rfl,r,-,a⟩:=nj d;obtain⟨C,R,rfl⟩:=XC b;exact⟨F,C,R,rfl,c,r,e,Z0 a (by simp),Z0 a (by simp)⟩
theorem Ul{f:Nat}(ih:tv f){G:List M.Tm}{t:M.Tm}{s:Tr}(hG:y6 G)(hv:valid sigT (enc t)=true)(h:Q0 (P0 f (ctxE G) (enc t)) 13=some (s,0)): ∃F C R,s=enc (.sg C R)/\Ty G t F/\HR F (.sg C R)/\j2 G t/\valid sigT (enc C)=true/\valid sigT (enc R)=true:=by
 obtain⟨u,i,d,b⟩:=vf h;obtain⟨F,rfl,c,e,j⟩:=ih G t u hG hv i;obtain⟨B,rfl,r,-,a⟩:=nj d;obtain⟨C,R,rfl⟩:=Mv b;exact⟨F,C,R,rfl,c,r,e,Z0 a (by simp),Z0 a (by simp)⟩
theorem yq{f:Nat}(ih:tv f){G:List M.Tm}{t:M.Tm}{s:Tr}(hG:y6 G)(hv:valid sigT (enc t)=true)(h:Q0 (P0 f (ctxE G) (enc t)) 10=some (s,0)): ∃F T a b,s=enc (.id T a b)/\Ty G t F/\HR F (.id T a b)/\j2 G t/\valid sigT (enc T)=true/\valid sigT (enc a)=true/\valid sigT (enc b)=true:=by
 obtain⟨u,k,i,d⟩:=vf h;obtain⟨F,rfl,e,j,l⟩:=ih G t u hG hv k;obtain⟨B,rfl,r,-,c⟩:=nj i;obtain⟨T,a,b,rfl⟩:=Zj d;exact⟨F,T,a,b,rfl,e,r,j,Z0 c (by simp),Z0 c (by simp),Z0 c (by simp)⟩
theorem sm{f:Nat}(ih:tv f){G:List M.Tm}{t W:M.Tm}{y:An}{u:Tr}(hG:y6 G)(hv:valid sigT (enc t)=true)(h:E4 (P0 f (ctxE G) (enc t)) (enc W) y=some (u,0)): ∃X,Ty G t X/\Cv X W/\j2 G t/\y=some (u,0):=by
 obtain⟨s,e,a,b⟩:=ej h;obtain⟨X,rfl,c,d,-⟩:=ih G t s hG hv e;exact⟨X,c,vv a,d,b⟩
theorem CE{f:Nat}(ih:tv f){G:List M.Tm}{p T:M.Tm}{y:An}{u:Tr}(hG:y6 G)(hv:valid sigT (enc p)=true)(h:Ea (P0 f (ctxE G) (enc p)) (enc T) y=some (u,0)): ∃F C D k,Ty G p F/\HR F (.pi C D)/\Cv C T/\HR D (.sort k)/\j2 G p/\y=some (u,0):=by
 obtain⟨A,s,c,q,a,b,d,e,n,l⟩:=Iy h;obtain⟨F,C,D,rfl,j,i,m,-,-⟩:=Vk ih hG hv (s:=s) (by
  unfold Q0 thn;rw[q];simp only[if_true];unfold S4;rw[if_neg (by rw[a];simp),if_neg (by rw[a];simpa using b),a])
 obtain⟨B,rfl,r,-,-⟩:=nj (show b8 (enc D) 200=(c,0) from e);obtain⟨k,rfl⟩:=Tu n;exact⟨F,C,D,k,j,i,vv d,r,m,l⟩
theorem snd: ∀f,tv f
 |0=> fun G t x hG hv h=> by cases h
 |f+1=> fun G t x hG hv h=> by
  have ih:=snd f;cases t with
  |var n=>
   have d:some (Oj (ctxE G) (n:Int))=some (x,0):=h;by_cases hn:n < G.length
   · rw[DD hn] at d
     obtain⟨v,rfl⟩:=ai d;exact⟨_,rfl,.var (Px hn),trivial,v⟩
   · unfold Oj at d
     rw[if_pos (by rw[q28];omega)] at d;simp at d
  |sort n=>
   have d:some (if(n:Int)=3 then(D2,(1:Int)) else(m7 ((n:Int)+1),0))=some (x,0):=by
    rw[<-h];simp[enc,P0,Sc]
   split at d
   · simp at d
   · rename_i hn
     simp only[cM,cQ,and_true] at d;have hle:(n:Int)<=3:=(m6 (N4 hv).1).2.2.1;refine⟨.sort (n+1),by rw[<-d];rfl,.sort,by show n < 3;omega, ?_⟩;have: ∀m:Fin 4,valid sigT (enc (.sort m.val))=true:=by decide+kernel
     exact this ⟨n+1,by omega⟩
  |nat=>
   have d:some (m7 0,(0:Int))=some (x,0):=h;simp only[cM,cQ,and_true] at d;exact⟨.sort 0,by rw[<-d];rfl,.nat,trivial,by decide+kernel⟩
  |zero=>
   have d:some (L6,(0:Int))=some (x,0):=h;simp only[cM,cQ,and_true] at d;exact⟨.nat,by rw[<-d];rfl,.zero,trivial,by decide+kernel⟩
  |succ a=>
   have d:E4 (P0 f (ctxE G) (enc a)) (enc .nat) (some (L6,0))=some (x,0):=h;obtain⟨X,U,V,lX,l⟩:=sm ih hG (Z0 hv (by simp)) d;simp only[cM,cQ,and_true] at l;exact⟨.nat,by rw[<-l];rfl,.succ U V,lX,by decide+kernel⟩
  |pi A B=>
   have d:thn (Q0 (P0 f (ctxE G) (enc A)) 2) (fun a=> thn (Q0 (Ma (P0 f) (ctxE G) 3 [enc A,enc B] 1) 2) fun b=> some (m7 (max a.num b.num),0))=some (x,0):=h;obtain⟨s,l,H⟩:=ga d;obtain⟨S,i,rfl,O,rA,lA,bA,hi⟩:=pe ih hG (Z0 hv (by simp)) l;obtain⟨s2,L,K⟩:=ga H;obtain⟨u,Q,N,h8⟩:=vf L;obtain⟨h9,J⟩:=Qu rfl Q;have C5:=hG.cons bA (Z0 hv (by simp));rw[show ctxE G++ [kd [enc A,enc B] 0]=ctxE (A::G) from(de A G).symm] at J;obtain⟨S',j,rfl,tB,rB,lB,bB,hj⟩:=pe ih C5 (Z0 hv (by simp)) (A:=B) (s:=s2) (by
    unfold Q0 thn;rw[show P0 f (ctxE (A::G)) (enc B)=some (u,0) from J];simp only[if_true];unfold S4;rw[if_neg (by rw[N];simp),if_neg (by rw[N];simpa using h8),N])
   simp only[cM,cQ,and_true] at K;refine⟨.sort (max i j),by rw[<-K];simp only[enc,Tr.num,m7];congr 1;omega,.pi O rA tB rB,⟨lA,lB⟩, ?_⟩;have: ∀m:Fin 4,valid sigT (enc (.sort m.val))=true:=by decide+kernel
   exact this ⟨max i j,by omega⟩
  |sg A B=>
   have d:thn (Q0 (P0 f (ctxE G) (enc A)) 2) (fun a=> thn (Q0 (Ma (P0 f) (ctxE G) 13 [enc A,enc B] 1) 2) fun b=> some (m7 (max a.num b.num),0))=some (x,0):=h;obtain⟨s,l,H⟩:=ga d;obtain⟨S,i,rfl,O,rA,lA,bA,hi⟩:=pe ih hG (Z0 hv (by simp)) l;obtain⟨s2,L,K⟩:=ga H;obtain⟨u,Q,N,h8⟩:=vf L;obtain⟨h9,J⟩:=Qu rfl Q;have C5:=hG.cons bA (Z0 hv (by simp));rw[show ctxE G++ [kd [enc A,enc B] 0]=ctxE (A::G) from(de A G).symm] at J;obtain⟨S',j,rfl,tB,rB,lB,bB,hj⟩:=pe ih C5 (Z0 hv (by simp)) (A:=B) (s:=s2) (by
    unfold Q0 thn;rw[show P0 f (ctxE (A::G)) (enc B)=some (u,0) from J];simp only[if_true];unfold S4;rw[if_neg (by rw[N];simp),if_neg (by rw[N];simpa using h8),N])
   simp only[cM,cQ,and_true] at K;refine⟨.sort (max i j),by rw[<-K];simp only[enc,Tr.num,m7];congr 1;omega,.sg O rA tB rB,⟨lA,lB⟩, ?_⟩;have: ∀m:Fin 4,valid sigT (enc (.sort m.val))=true:=by decide+kernel
   exact this ⟨max i j,by omega⟩
  |lam A t=>
   have d:thn (Q0 (P0 f (ctxE G) (enc A)) 2) (fun _=> thn (Ma (P0 f) (ctxE G) 4 [enc A,enc t] 1) fun b=> thn (some (mkV (.mk 3 0 [enc A,b]))) fun out=> thn (P0 f (ctxE G) out) fun _=> some (out,0))=some (x,0):=h;obtain⟨s,l,H⟩:=ga d;obtain⟨S,i,rfl,O,rA,lA,bA,hi⟩:=pe ih hG (Z0 hv (by simp)) l;obtain⟨b,L,K⟩:=ga H;obtain⟨Q,N⟩:=Qu rfl L;have C5:=hG.cons bA (Z0 hv (by simp));rw[show ctxE G++ [kd [enc A,enc t] 0]=ctxE (A::G) from(de A G).symm] at N;obtain⟨B,rfl,tB,lB,vB⟩:=ih (A::G) t b C5 (Z0 hv (by simp)) N;obtain⟨h8,h9⟩:=Ox K;obtain⟨v,e⟩:=Zt h8;rw[e] at h9;obtain⟨s3,J,h11⟩:=ga h9;obtain⟨P,rfl,tP,lP,-⟩:=ih G (.pi A B) s3 hG v J;simp only[cM,cQ,and_true] at h11;refine⟨.pi A B,h11.symm,.lam O rA tB,⟨lA,lB,fun B' k' hB hk=> ?_⟩,v⟩;obtain rfl:=tB.det hB;cases tP with
   |pi k1 k2 k3 k4=>
    have:=M.lev_le (j2.type (.pi k1 k2 k3 k4) hG.wf lP) (.refl _);have e2:=hk.det ⟨_,k3,k4⟩;omega
  |app g a=>
   have d:thn (Q0 (P0 f (ctxE G) (enc g)) 3) (fun s=> E4 (P0 f (ctxE G) (enc a)) (kd s.kids 0) (some (mkV (X0 (enc a) (kd s.kids 1) 0 0))))=some (x,0):=h;obtain⟨s,l,H⟩:=ga d;obtain⟨F,C,R,rfl,tF,rF,lF,vC,vR⟩:=Vk ih hG (Z0 hv (by simp)) l;obtain⟨X,U,V,lX,L⟩:=sm ih hG (Z0 hv (by simp)) (W:=C) H;obtain⟨v,rfl⟩:=ai L;have e:X0 (enc a) (kd (enc (.pi C R)).kids 1) 0 0=enc (R.inst a):=Yp R a;rw[e] at v⊢;exact⟨_,rfl,.app tF rF U V,⟨lF,lX⟩,v⟩
  |elim p z s a=>
   have d:Ea (P0 f (ctxE G) (enc p)) (enc .nat) (thn (some (mkV (.mk 5 0 [enc p,.mk 7 0 []]))) fun w=> E4 (P0 f (ctxE G) (enc z)) w (thn (some (mkV (Oc (enc p)))) fun w2=> E4 (P0 f (ctxE G) (enc s)) w2 (E4 (P0 f (ctxE G) (enc a)) (enc .nat) (some (mkV (.mk 5 0 [enc p,enc a]))))))=some (x,0):=h;obtain⟨F,C,D,k,tF,rF,cC,rD,lF,l⟩:=CE ih hG (Z0 hv (by simp)) d;obtain⟨H,L⟩:=Ox l;obtain⟨v1,e1⟩:=Zt H;rw[e1] at L;obtain⟨Z,tZ,cZ,lZ,K⟩:=sm ih hG (Z0 hv (by simp)) (W:= .app p .zero) L;obtain⟨Q,N⟩:=Ox K;obtain⟨v2,e2⟩:=Zt Q;rw[e2,uq] at N;obtain⟨S,tS,cS,lS,h8⟩:=sm ih hG (Z0 hv (by simp)) N;obtain⟨X,U,V,lX,h9⟩:=sm ih hG (Z0 hv (by simp)) h8;obtain⟨v3,rfl⟩:=ai h9;exact⟨.app p a,rfl,.elim tF rF cC rD tZ cZ tS cS U V,⟨lF,lZ,lS,lX⟩,v3⟩
  |id T a b=>
   have d:thn (Q0 (P0 f (ctxE G) (enc T)) 2) (fun s=> E4 (P0 f (ctxE G) (enc a)) (enc T) (E4 (P0 f (ctxE G) (enc b)) (enc T) (some (m7 s.num,0))))=some (x,0):=h;obtain⟨s,l,H⟩:=ga d;obtain⟨S,i,rfl,O,rA,lA,bA,hi⟩:=pe ih hG (Z0 hv (by simp)) l;obtain⟨X,U,V,lX,L⟩:=sm ih hG (Z0 hv (by simp)) H;obtain⟨Y,tY,cY,lY,K⟩:=sm ih hG (Z0 hv (by simp)) L;simp only[cM,cQ,and_true] at K;refine⟨.sort i,by rw[<-K];rfl,.id O rA U V tY cY,⟨lA,lX,lY⟩, ?_⟩;have: ∀m:Fin 4,valid sigT (enc (.sort m.val))=true:=by decide+kernel
   exact this ⟨i,by omega⟩
  |refl a=>
   have d:thn (P0 f (ctxE G) (enc a)) (fun s=> thn (Q0 (P0 f (ctxE G) s) 2) fun _=> some (mkV (.mk 10 0 [s,enc a,enc a])))=some (x,0):=h;obtain⟨s,l,H⟩:=ga d;obtain⟨A,rfl,O,lA,vA⟩:=ih G a s hG (Z0 hv (by simp)) l;obtain⟨s2,L,K⟩:=ga H;obtain⟨S,i,rfl,tS,rS,lS,bS,hi⟩:=pe ih hG vA L;obtain⟨v,rfl⟩:=ai K;refine⟨.id A a a,rfl,.refl O,⟨lA,fun B' k' hB hk=> ?_⟩,v⟩;obtain rfl:=O.det hB;have:=hk.det ⟨S,tS,rS⟩;omega
  |move p e a=>
   have d:thn (Q0 (P0 f (ctxE G) (enc e)) 10) (fun s=> Ea (P0 f (ctxE G) (enc p)) (kd s.kids 0) (thn (some (mkV (.mk 5 0 [enc p,kd s.kids 1]))) fun w=> E4 (P0 f (ctxE G) (enc a)) w (some (mkV (.mk 5 0 [enc p,kd s.kids 2])))))=some (x,0):=h;obtain⟨s,l,H⟩:=ga d;obtain⟨E,T,b,c,rfl,tE,rE,lE,vT,vb,vc⟩:=yq ih hG (Z0 hv (by simp)) l;obtain⟨F,C,D,k,tF,rF,cC,rD,lF,L⟩:=CE ih hG (Z0 hv (by simp)) (T:=T) H;obtain⟨K,Q⟩:=Ox L;obtain⟨v1,e1⟩:=Zt K;rw[e1] at Q;obtain⟨X,U,V,lX,N⟩:=sm ih hG (Z0 hv (by simp)) (W:= .app p b) Q;obtain⟨v2,rfl⟩:=ai N;exact⟨.app p c,rfl,.move tE rE tF rF cC rD U V,⟨lF,lE,lX⟩,v2⟩
  |pair T a b=>
   have d:thn (Q0 (P0 f (ctxE G) (enc T)) 2) (fun _=> thn (some (S4 (enc T) 13)) fun s=> E4 (P0 f (ctxE G) (enc a)) (kd s.kids 0) (thn (some (mkV (X0 (enc a) (kd s.kids 1) 0 0))) fun w=> E4 (P0 f (ctxE G) (enc b)) w (some (enc T,0))))=some (x,0):=h;obtain⟨s,l,H⟩:=ga d;obtain⟨S,i,rfl,O,rA,lA,bA,hi⟩:=pe ih hG (Z0 hv (by simp)) l;obtain⟨L,K⟩:=Ox H;obtain⟨Q,N⟩:=Vz L;generalize (S4 (enc T) 13).1=q at K Q N;obtain⟨B,rfl,r,-,vB⟩:=nj Q;obtain⟨C,R,rfl⟩:=Mv N;obtain⟨X,U,V,lX,h8⟩:=sm ih hG (Z0 hv (by simp)) (W:=C) K;obtain⟨h9,J⟩:=Ox h8;obtain⟨v1,e1⟩:=Zt h9;have e:X0 (enc a) (kd (enc (.sg C R)).kids 1) 0 0=enc (R.inst a):=Yp R a;rw[e1,e] at J;obtain⟨Y,tY,cY,lY,h11⟩:=sm ih hG (Z0 hv (by simp)) J;simp only[cM,cQ,and_true] at h11;exact⟨T,h11.symm,.pair O rA r U V tY cY,⟨lA,lX,lY⟩,Z0 hv (by simp)⟩
  |fst a=>
   have d:thn (Q0 (P0 f (ctxE G) (enc a)) 13) (fun s=> some (kd s.kids 0,0))=some (x,0):=h;obtain⟨s,l,H⟩:=ga d;obtain⟨F,C,R,rfl,tF,rF,lF,vC,vR⟩:=Ul ih hG (Z0 hv (by simp)) l;simp only[cM,cQ,and_true] at H;exact⟨C,H.symm,.fst tF rF,lF,vC⟩
  |snd a=>
   have d:thn (Q0 (P0 f (ctxE G) (enc a)) 13) (fun s=> some (mkV (X0 (.mk 15 0 [enc a]) (kd s.kids 1) 0 0)))=some (x,0):=h;obtain⟨s,l,H⟩:=ga d;obtain⟨F,C,R,rfl,tF,rF,lF,vC,vR⟩:=Ul ih hG (Z0 hv (by simp)) l;obtain⟨v,rfl⟩:=ai H;have e:X0 (.mk 15 0 [enc a]) (kd (enc (.sg C R)).kids 1) 0 0=enc (R.inst (.fst a)):=Yp R (.fst a);rw[e] at v⊢;exact⟨_,rfl,.snd tF rF,lF,v⟩
end Go.Proofs.YtckhbnmfnpolgaaGreat
namespace Go.Proofs.YtckhbnmfnpolgaaGreat
open Go Go.RowKit
def m8(R:List Nat)(w w':aN):Prop:=w.heap.size<=w'.heap.size/\ ∀b,b < w.heap.size->b∉R->w'.heap[b]? =w.heap[b]?
theorem Ext.offR{R:List Nat}{w w':aN}(h:Ext w w'):m8 R w w':=⟨h.size,fun b a _=> h.heap b a⟩
theorem m8.trans{R:List Nat}{a b c:aN}(h:m8 R a b)(k:m8 R b c):m8 R a c:=⟨bM h.1 k.1,fun x hx hr=>(k.2 x (aZ hx h.1) hr).trans (h.2 x hx hr)⟩
theorem m8.cell{R:List Nat}{w w':aN}(h:m8 R w w'){b o:Nat}{v:aU}(hc:w.cell? ⟨b,o,none⟩=some v)(hr:b∉R):w'.cell? ⟨b,o,none⟩=some v:=
 (World.cell?_of_block (w:=w) (a:=⟨b,o,none⟩) (h.2 b (World.block_lt_of_cell? w ⟨b,o,none⟩ hc) hr)).trans hc
theorem m8.set3{R:List Nat}{a b:aN}(h:m8 R a b){r:Nat}(hr:r∈R)(x y z:aU):m8 R a (((b.setCell ⟨r,0,none⟩ x).setCell ⟨r,1,none⟩ y).setCell ⟨r,2,none⟩ z):=
 ⟨by simpa using h.1,fun c hc hn=> by
  have d:c≠r:=fun e=> hn (e▸hr)
  rw[aM _ _ _ _ d,aM _ _ _ _ d,aM _ _ _ _ d];exact h.2 c hc hn⟩
theorem InT.offR{R:List Nat}{w w':aN}{t:Tr}{v:aU}(h:InT w (fun b=> b∉R) t v)(e:m8 R w w'):InT w' (fun b=> b∉R) t v:=
 InT.mono (fun b a=> a.1) (fun b a=> e.2 b a.2 a.1) h.bound
theorem InT.offB{B:Nat}{R:List Nat}{w w':aN}{t:Tr}{v:aU}(h:InT w (fun b=> B<=b/\b∉R) t v)(e:m8 R w w'):InT w' (fun b=> B<=b/\b∉R) t v:=
 InT.mono (fun b a=> a.1) (fun b a=> e.2 b a.2 a.1.2) h.bound
def Rc(B:Nat)(R:List Nat)(w:aN)(r:Nat)(t:Tr):Prop:= ∃x y z,w.heap[r]? =some (.cells #[x,y,z] 25 (0,0))/\InT w (fun b=> B<=b/\b∉R) t (.agg #[x,y,z])
def E3(B:Nat)(R:List Nat)(T:Nat->Tr)(x y:aN×Unit):Prop:=m8 R x.1 y.1/\Below B x.1 y.1/\ ∀r,r∈R->y.1.heap[r]? =x.1.heap[r]? \/Rc B R y.1 r (T r)
section
variable {B : Nat} {R : List Nat} {T : Nat → Tr} {x y z : aN × Unit}
theorem Rc.e{r:Nat}(h:Rc B R x.1 r (T r))(hr:r∈R)(e:E3 B R T x y):Rc B R y.1 r (T r):=by
 rcases e.2.2 r hr with k|k
 · obtain⟨a,b,c,i,d⟩:=h
   exact⟨a,b,c,k.trans i,d.offB e.1⟩
 · exact k
theorem E3.refl:E3 B R T x x:=⟨(xr _).offR,Below.refl _ _,fun _ _=> .inl rfl⟩
theorem E3.trans(h:E3 B R T x y)(k:E3 B R T y z):E3 B R T x z:=⟨h.1.trans k.1,Below.trans h.2.1 k.2.1,fun r hr=> by
 rcases k.2.2 r hr with b|b
 · rcases h.2.2 r hr with a|a
   · exact .inl (b.trans a)
   · exact .inr (Rc.e a hr k)
 · exact .inr b⟩
theorem E3.ext{w':aN}(a: ∀r,r∈R->r < x.1.heap.size)(b:B<=x.1.heap.size)(e:Ext x.1 w'):E3 B R T x (w',()):=⟨e.offR,Below.mono e b,fun r hr=> .inl (e.heap r (a r hr))⟩
theorem E3.lt{w w':aN}(h:E3 B R T (w,()) (w',()))(a: ∀r,r∈R->r < w.heap.size): ∀r,r∈R->r < w'.heap.size:=fun r hr=> aZ (a r hr) h.1.1
theorem E3.put{w:aN}{r:Nat}(hr:r∈R)(j:B<=r){u v t:aU}(i: ∃a b c,w.heap[r]? =some (.cells #[a,b,c] 25 (0,0)))(h:InT w (fun b=> B<=b/\b∉R) (T r) (.agg #[u,v,t])):
 E3 B R T (w,()) (((w.setCell ⟨r,0,none⟩ u).setCell ⟨r,1,none⟩ v).setCell ⟨r,2,none⟩ t,())/\Rc B R (((w.setCell ⟨r,0,none⟩ u).setCell ⟨r,1,none⟩ v).setCell ⟨r,2,none⟩ t) r (T r):=by
 obtain⟨a,b,c,i⟩:=i;have e:m8 R w (((w.setCell ⟨r,0,none⟩ u).setCell ⟨r,1,none⟩ v).setCell ⟨r,2,none⟩ t):=m8.set3 (xr w).offR hr u v t;have H:Rc B R (((w.setCell ⟨r,0,none⟩ u).setCell ⟨r,1,none⟩ v).setCell ⟨r,2,none⟩ t) r (T r):=⟨u,v,t,b6 (b6 (b6 i 0 u) 1 v) 2 t,h.offB e⟩;refine⟨⟨e,Below.setCell (Below.setCell (Below.setCell (Below.refl _ _) j u) j v) j t,fun q k=> ?_⟩,H⟩;by_cases d:q=r
 · exact .inr (d▸H)
 · exact .inl (by rw[aM _ _ _ _ d,aM _ _ _ _ d,aM _ _ _ _ d])
end
inductive S3 where
 |any
 |tree (t:Tr)
 |put (r:Nat)
def S3.holds(B:Nat)(R:List Nat)(T:Nat->Tr):S3->aU->aN×Unit->Prop
 | .any,_,_=> True
 | .tree t,v,x=> InT x.1 (fun b=> B<=b/\b∉R) t v
 | .put r,_,x=> r∈R/\Rc B R x.1 r (T r)
def sC(B:Nat)(R:List Nat)(T:Nat->Tr)(l:List S3)(i:Nat)(v:aU)(x:aN×Unit):Prop:=(l.getD i .any).holds B R T v x
theorem tn{B:Nat}{R:List Nat}{T:Nat->Tr}(l:List S3)(i:Nat)(v:aU)(x y:aN×Unit)(h:sC B R T l i v x)(e:E3 B R T x y):sC B R T l i v y:=by
 unfold sC at h⊢;cases hs:l.getD i .any with
 |any=> trivial
 |tree t=> rw[hs] at h;exact InT.offB h e.1
 |put r=> rw[hs] at h;exact⟨h.1,h.2.e h.1 e⟩
theorem FC{P:Program}{ops:Array Oper}{Q:Exit->Act->aN->Prop}{S:aN->Prop}{c:Array Bool}{d:Act}{fuel:Nat}{W:aN}(B:Nat)(R:List Nat)(T:Nat->Tr)(m N:Nat)(lT:Array Bool)(i:Nat)(l:List S3)(is:List Nat)(hS: ∀w,m8 R W w->S w)(hc:(((List.range m).filter (fun j=> !Ord.isOn c j)==is)&& Ord.okX ops c m N m && fuel==Ord.opnO c ops.size && Ord.doneO c m==lT && Ord.opnO lT ops.size==i)=true)(hN:d.tmps.size=N)
 (b:Ord.StL P ops Q c m (E3 B R T) (sC B R T l) d (W,()) is)
 (fin: ∀(v:Nat->aU) w,E3 B R T (W,()) (w,())->(∀j,j < m->Ord.isOn c j=false->sC B R T l j (v j) (w,()))->wpAnyH P .any ops Q S i lT (is.foldl (fun a j=> a.put (Ord.dstOf ops j) (v j)) d) w):
 wpAnyH P .any ops Q S fuel c d W:=by
 simp only[aX,beq_iff_eq] at hc;obtain⟨⟨⟨⟨e,s⟩,r⟩,n⟩,p⟩:=hc;exact Ord.wpAnyH_orderX (w0:=(W,())) e s hN r n p (fun h=> absurd h (Nat.lt_irrefl _)) E3.refl (fun _ _ _ h q=> h.trans q) (tn l) (fun w z h=> hS w h.1) b (fun v w z h k=> by rw[Ord.putN_l is e];exact fin v w h k)
theorem KA.offR{R:List Nat}{w w':aN}{b o:Nat}{t:Tr}{i c:Int}{k:Option Addr}{d j:Nat}(h:KA w (fun b=> b∉R) b o t i c k d j)(a:b∉R)(e:m8 R w w'):KA w' (fun b=> b∉R) b o t i c k d j:=
 ⟨e.cell h.1 a,e.cell h.2.1 a,e.cell h.2.2.1 a,aZ h.2.2.2.1 e.1,h.2.2.2.2.offR e⟩
theorem E3.box{B:Nat}{R:List Nat}{T:Nat->Tr}{W w:aN}{z:Unit}(h:E3 B R T (W,()) (w,z)){r:Nat}(hr:r∈R)(d: ∃a b c,W.heap[r]? =some (.cells #[a,b,c] 25 (0,0))): ∃a b c,w.heap[r]? =some (.cells #[a,b,c] 25 (0,0)):=by
 rcases h.2.2 r hr with k|⟨a,b,c,k,-⟩
 · obtain⟨a,b,c,d⟩:=d
   exact⟨a,b,c,k.trans d⟩
 · exact⟨a,b,c,k⟩
def sd(r:Tr×Int)(i:Nat):Tr:=if r.2=0 then kd r.1.kids i else D2
theorem So{s:Tr}{c:Int}{i:Nat}(hc:c≠0):sd (s,c) i=D2:=if_neg hc
theorem vl{s:Tr}{i:Nat}:sd (s,0) i=kd s.kids i:=if_pos rfl
def YK(w:aN)(r:Tr×Int)(e:Ending)(w':aN):Prop:= ∃c d a,e= .returned (.tuple #[c,d,a,.int .i64 r.2])/\InT w' (fun b=> w.heap.size<=b) (sd r 0) c/\InT w' (fun b=> w.heap.size<=b) (sd r 1) d/\InT w' (fun b=> w.heap.size<=b) (sd r 2) a/\Ext w w'
def set3(w:aN)(g:Nat)(x y z:aU):aN:=((w.setCell ⟨g,0,none⟩ x).setCell ⟨g,1,none⟩ y).setCell ⟨g,2,none⟩ z
theorem PH{w:aN}{g:Nat}{j i d a c b:aU}{e:TypeId}(h:w.heap[g]? =some (.cells #[j,i,d] e (0,0))):(set3 w g a c b).heap[g]? =some (.cells #[a,c,b] e (0,0)):=b6 (b6 (b6 h 0 a) 1 c) 2 b
theorem Zs{w:aN}{g b:Nat}{x y z:aU}(h:g≠b):(set3 w g x y z).heap[b]? =w.heap[b]? :=by
 unfold set3;rw[aM _ _ _ _ h.symm,aM _ _ _ _ h.symm,aM _ _ _ _ h.symm]
def EH(g:Nat)(I:aN->Prop)(x y:aN×List Nat):Prop:=
 i1 [g] x.1 y.1/\(∀b,b∈x.2->b∈y.2)/\(∀b,b∈y.2->b∈x.2\/x.1.heap.size<=b)/\(∀b,b∈y.2->b < y.1.heap.size)/\g∈x.2/\I y.1
section
variable {g : Nat} {I : aN → Prop} {x y : aN × List Nat} {W w w' : aN} {z : List Nat} {M : Nat → Prop} {t : Tr} {v : aU} {o : Obj}
theorem EH.start(a:g < w.heap.size)(h:I w):EH g I (w, [g]) (w, [g]):=⟨i1.refl _ _,fun _ h=> h,fun _ h=> .inl h,fun b h=> by rw[List.mem_singleton.1 h];exact a,List.mem_singleton.2 rfl,h⟩
theorem EH.trans{z:aN×List Nat}(h:EH g I x y)(k:EH g I y z):EH g I x z:=by
 refine⟨h.1.trans k.1,fun b a=> k.2.1 b (h.2.1 b a),fun b a=> ?_,k.2.2.2.1,h.2.2.2.2.1,k.2.2.2.2.2⟩;rcases k.2.2.1 b a with e|e
 · exact h.2.2.1 b e
 · exact .inr (bM h.1.size e)
theorem EH.has(h:EH g I x (w,z)):g∈z:=h.2.1 g h.2.2.2.2.1
theorem EH.put(h:EH g I x (w,z))(e:i1 [g] w w')(k:I w'):EH g I (w,z) (w',z):=
 ⟨e,fun _ h=> h,fun _ h=> .inl h,fun b a=> aZ (h.2.2.2.1 b a) e.size,h.has,k⟩
theorem EH.same(h:EH g I x (w,z))(e:Ext w w')(k:I w'):EH g I (w,z) (w',z):=h.put (oE e) k
theorem EH.box(h:EH g I x (w,z))(k:I (w.alloc o)):EH g I (w,z) (w.alloc o,w.heap.size::z):=by
 refine⟨(i1.refl _ _).alloc _,fun _ h=> List.mem_cons_of_mem _ h,fun b a=> ?_,fun b a=> ?_,h.has,k⟩
 · rcases List.mem_cons.1 a with rfl|a
   · exact .inr (Nat.le_refl _)
   · exact .inl a
 · have:(w.alloc o).heap.size=w.heap.size+1:=by simp
   rcases List.mem_cons.1 a with rfl|a
   · show w.heap.size <(w.alloc o).heap.size;omega
   · have:=h.2.2.2.1 b a;show b <(w.alloc o).heap.size;simp only at this;omega
theorem Mz.laterH(h:EH g I x y){b:Nat}(a:Mz M x.2 b/\b < x.1.heap.size):Mz M y.2 b:=by
 refine⟨a.1.1,fun e=> ?_⟩;rcases h.2.2.1 b e with f|f
 · exact a.1.2 f
 · have:=a.2
   omega
theorem InT.laterH(h:InT x.1 (Mz M x.2) t v)(e:EH g I x y):InT y.1 (Mz M y.2) t v:=
 InT.mono (fun b a=> Mz.laterH e a) (fun b a=> e.1.block b a.2 fun k=> a.1.2 (List.mem_singleton.1 k▸e.2.2.2.2.1)) h.bound
theorem InK.laterH{A:Option Addr}{c:List Tr}(h:InK x.1 (Mz M x.2) A c)(e:EH g I x y):InK y.1 (Mz M y.2) A c:=
 InK.mono (fun b a=> Mz.laterH e a) (fun b a=> e.1.block b a.2 fun k=> a.1.2 (List.mem_singleton.1 k▸e.2.2.2.2.1)) h.bound
theorem InT.oldH(h:InT W M t v)(c: ∀b,M b->b≠g)(e:EH g I (W, [g]) (w,z)):InT w (Mz M z) t v:=
 InT.laterH (x:=(W, [g])) (y:=(w,z)) (InT.mono (fun b a=>⟨a,fun h=> c b a (List.mem_singleton.1 h)⟩) (fun _ _=> rfl) h) e
theorem jr(hN: ∀b,W.heap.size<=b->M b)(h:EH g I (W, [g]) (w,z)): ∀b,w.heap.size<=b->Mz M z b:=
 fun b a=>⟨hN b (bM h.1.size a),fun e=> by have:=h.2.2.2.1 b e;simp only at this;omega⟩
def Sp.beyond(g:Nat):Sp->Prop
 | .box W=> g < W.heap.size
 |_=> True
theorem Sp.extH: ∀{s:Sp} {v:aU},s.beyond g->s.holdsG v x->EH g I x y->s.holdsG v y
 | .any,_,_,_,_=> trivial
 | .val u,_,_,h,_=> h
 | .tree M t,_,_,h,e=> InT.laterH h e
 | .row M ts,_,_,h,e=> by
  obtain⟨A,c,d,a,i,j⟩:=h;exact⟨A,c,d,a,i,InK.laterH j e⟩
 | .two M t c,_,_,h,e=> by
  obtain⟨u,d,a⟩:=h;exact⟨u,d,InT.laterH a e⟩
 | .box W,_,m,h,e=> by
  obtain⟨b,d,l,a,i⟩:=h;refine⟨b,d,e.2.1 b l,a,(e.1.block b (D1 i) fun k=> ?_).trans i⟩;have j:b=g:=List.mem_singleton.1 k;have:g < W.heap.size:=m;omega
end
def Sp.allB(g:Nat):List Sp->Prop
 | []=> True
 |s::l=> s.beyond g/\Sp.allB g l
theorem Sp.allB.get{g:Nat}: ∀{l:List Sp} {i:Nat},Sp.allB g l->(l.getD i .any).beyond g
 | [],_,_=> trivial
 |s::l,0,h=> h.1
 |s::l,i+1,h=> by
  have:=Sp.allB.get (l:=l) (i:=i) h.2
  simpa using this
theorem BD{P:Program}{ops:Array Oper}{Q:Exit->Act->aN->Prop}{S:aN->Prop}{c:Array Bool}{d:Act}{fuel:Nat}{W:aN}(g:Nat)(I:aN->Prop)(m N:Nat)(lT:Array Bool)(p:Nat)(l:List Sp)(is:List Nat)(D:g < W.heap.size)(u:I W)(hl:Sp.allB g l)(hS: ∀w,i1 [g] W w->S w)(hc:(((List.range m).filter (fun j=> !Ord.isOn c j)==is)&& Ord.okX ops c m N m && fuel==Ord.opnO c ops.size && Ord.doneO c m==lT && Ord.opnO lT ops.size==p)=true)(hN:d.tmps.size=N)
 (b:Ord.StL P ops Q c m (EH g I) (dd l) d (W, [g]) is)
 (fin: ∀(v:Nat->aU) w z,EH g I (W, [g]) (w,z)->(∀j,j < m->Ord.isOn c j=false->dd l j (v j) (w,z))->wpAnyH P .any ops Q S p lT (is.foldl (fun a j=> a.put (Ord.dstOf ops j) (v j)) d) w):
 wpAnyH P .any ops Q S fuel c d W:=by
 simp only[aX,beq_iff_eq] at hc;obtain⟨⟨⟨⟨n,E⟩,C⟩,q⟩,r⟩:=hc;exact Ord.wpAnyH_orderX (w0:=(W, [g])) n E hN C q r (fun h=> absurd h (Nat.lt_irrefl _)) (EH.start D u) (fun _ _ _ h A=> h.trans A) (G:=dd l) (fun i v x y h e=> Sp.extH (s:=l.getD i .any) hl.get h e) (fun w z h=> hS w h.1) b (fun v w z h k=> by rw[Ord.putN_l is n];exact fin v w z h k)
def Jm(g:Nat)(P:Prop)(w:aN):Prop:= ∃z,w.heap[g]? =some (.cells #[.bool z] 4 (0,0))/\(P->z=true)
section
variable {g : Nat} {P : Prop} {x : aN × List Nat} {w w' : aN} {z : List Nat} {o : Obj}
theorem Jm.later(h:Jm g P w)(e:Ext w w'):Jm g P w':=by
 obtain⟨y,b,a⟩:=h;exact⟨y,e.blk b,a⟩
theorem EH.ok(h:EH g (Jm g P) x (w,z)):Jm g P w:=h.2.2.2.2.2
theorem EH.ex(h:EH g (Jm g P) x (w,z))(e:Ext w w'):EH g (Jm g P) (w,z) (w',z):=h.same e (h.ok.later e)
theorem EH.bx(h:EH g (Jm g P) x (w,z)):EH g (Jm g P) (w,z) (w.alloc o,w.heap.size::z):=h.box (h.ok.later ((xr _).alloc _))
end
theorem sn3{a c:aN}{N:Nat->Prop}{l u q n k m r i d:aU}{e F j:TypeId}(A:c=((a.alloc (.cells #[l,u,q] e)).alloc (.cells #[n,k,m] F)).alloc (.cells #[r,i,d] j))(hN: ∀b,a.heap.size<=b->N b):
 Ext a c/\c.heap[a.heap.size+1+1]? =some (.cells #[r,i,d] j)/\ ∀w',Off (a.heap.size+1+1) c w'->(∀b,w'.heap.size<=b->N b/\b≠a.heap.size+1+1)/\(w'.cell? ⟨a.heap.size,0,none⟩=some l/\w'.cell? ⟨a.heap.size,1,none⟩=some u/\w'.cell? ⟨a.heap.size,2,none⟩=some q/\a.heap.size < w'.heap.size)/\w'.cell? ⟨a.heap.size+1,0,none⟩=some n/\w'.cell? ⟨a.heap.size+1,1,none⟩=some k/\w'.cell? ⟨a.heap.size+1,2,none⟩=some m/\a.heap.size+1 < w'.heap.size:=by
 obtain⟨C,E,H,s,p⟩:=be A;exact⟨p,H,both (fun w' h b D=> Va hN p.size s b (bM h.1 D)) (both (k8 C (by omega)) (k8 E (by omega)))⟩
