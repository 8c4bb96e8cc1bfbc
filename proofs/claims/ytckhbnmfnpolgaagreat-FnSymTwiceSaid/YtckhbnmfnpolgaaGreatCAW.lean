/-
  Lemmas towards the law, 23: MHd, StepT, MInf, Ord3, OrdH, Fill2.
-/
import Derived.Test.YtckhbnmfnpolgaaGreatCAD
import Derived.Test.YtckhbnmfnpolgaaGreatCAV
open Prod.mk renaming injEq->cO
open Bool renaming and_eq_true->aW
open Go renaming World->aL,Value->aT,wpAnyH->iR
open Option.some renaming injEq->bX,inj->bY
open Nat renaming le_trans->bL,lt_of_lt_of_le->aY,le_refl->aN
open Go.RowKit.Below renaming heap_setCell->aM
set_option linter.all false
namespace Go.Proofs.YtckhbnmfnpolgaaGreat
open Go.RowKit
open M (Hd HR Cv)
theorem Zc{k:Int}(n:Int)(a:List Tr)(h: ¬(k=5\/k=9\/k=12\/k=15\/k=16)):p4 (.mk k n a)=([],false):=by
 have b:rdx k a=0:=bo (by omega) (by omega) (by omega) (by omega) (by omega);rw[p4,if_neg (by rw[b];decide),if_neg (by omega),if_neg (by omega),if_neg (by omega)]
def DD(t:M.Tm):Prop:=(∀p,p4 (enc t)=(p,true)-> ∃u,conA (enc t) p=enc u/\Hd t u)/\((p4 (enc t)).2=false-> ∀u,¬Hd t u)
theorem DD.leaf{t:M.Tm}(h:p4 (enc t)=([],false))(no: ∀u,¬Hd t u):DD t:=
 ⟨fun p e=> by rw[h] at e;simp at e,fun _=> no⟩
theorem DD.root{t u:M.Tm}(h:p4 (enc t)=([],true))(e:ctrT (enc t)=enc u)(k:Hd t u):DD t:=
 ⟨fun p q=> by
  rw[h] at q;simp only[cO,and_true] at q;subst q;exact⟨u,by rw[Xs,e],k⟩,fun q=> by rw[h] at q;cases q⟩
theorem pu: ∀t:M.Tm,DD t:=by
 intro t
 induction t with
 |var n=> exact .leaf (Zc _ _ (by omega)) fun u h=> by cases h
 |sort n=> exact .leaf (Zc _ _ (by omega)) fun u h=> by cases h
 |pi A B=> exact .leaf (Zc _ _ (by omega)) fun u h=> by cases h
 |lam A B=> exact .leaf (Zc _ _ (by omega)) fun u h=> by cases h
 |nat=> exact .leaf (Zc _ _ (by omega)) fun u h=> by cases h
 |zero=> exact .leaf (Zc _ _ (by omega)) fun u h=> by cases h
 |succ a=> exact .leaf (Zc _ _ (by omega)) fun u h=> by cases h
 |id T a b=> exact .leaf (Zc _ _ (by omega)) fun u h=> by cases h
 |refl a=> exact .leaf (Zc _ _ (by omega)) fun u h=> by cases h
 |sg A B=> exact .leaf (Zc _ _ (by omega)) fun u h=> by cases h
 |pair T a b=> exact .leaf (Zc _ _ (by omega)) fun u h=> by cases h
 |app f a d E=>
  by_cases hl: ∃A b,f= .lam A b
  · obtain⟨A,b,rfl⟩:=hl
    exact .root (by simp[enc,p4,rdx,kd,Tr.kind]) (tm b a) (.beta A b a)
  · have hk:(enc f).kind≠4:=by intro h;cases f <;> simp[enc,Tr.kind] at h;exact hl ⟨_,_,rfl⟩
    have C: ¬rdx 5 [enc f,enc a]≠0:=fun h=> by
     rcases pl h with h|h|h|h|h|h <;> first|exact hk h.2|omega
    have e:p4 (enc (.app f a))=(((0:Nat):Int)::(p4 (enc f)).1,(p4 (enc f)).2):=by
     show p4 (.mk 5 0 [enc f,enc a])=_
     rw[p4,if_neg C,if_pos (.inl rfl),b7]
     rfl
    refine⟨fun p h=> ?_,fun h u r=> ?_⟩
    · rw[e] at h
      simp only[cO] at h;obtain⟨rfl,c⟩:=h;obtain⟨u,j,l⟩:=d.1 _ (by rw[<-c]);refine⟨.app u a, ?_,.app a l⟩
      show conA (.mk 5 0 [enc f,enc a]) _=_
      rw[Yv (k:=5) (n:=0) (ks:= [enc f,enc a]) (i:=0) (p:=(p4 (enc f)).1) (by simp) (Mf (enc f) _ (by rw[<-c]))]
      show Tr.mk 5 0 [conA (enc f) _,enc a]=_
      rw[j]
      rfl
    · rw[e] at h
      cases r with
      |beta=> exact hl ⟨_,_,rfl⟩
      |app _ D=> exact d.2 h _ D
 |elim p z s a d E K J=>
  by_cases F:a= .zero
  · subst F
    exact .root (by simp[enc,p4,rdx,kd,Tr.kind]) rfl (.ez p z s)
  by_cases hl: ∃b,a= .succ b
  · obtain⟨b,rfl⟩:=hl
    exact .root (by simp[enc,p4,rdx,kd,Tr.kind]) rfl (.es p z s b)
  · have hk:(enc a).kind≠7:=by intro h;cases a <;> simp[enc,Tr.kind] at h;exact F rfl
    have H:(enc a).kind≠8:=by intro h;cases a <;> simp[enc,Tr.kind] at h;exact hl ⟨_,rfl⟩
    have C: ¬rdx 9 [enc p,enc z,enc s,enc a]≠0:=fun h=> by
     rcases pl h with h|h|h|h|h|h <;> first|exact hk h.2|exact H h.2|omega
    have e:p4 (enc (.elim p z s a))=(((3:Nat):Int)::(p4 (enc a)).1,(p4 (enc a)).2):=by
     show p4 (.mk 9 0 [enc p,enc z,enc s,enc a])=_
     rw[p4,if_neg C,if_neg (by omega),if_pos rfl,b7,b7,b7,b7]
     rfl
    refine⟨fun q h=> ?_,fun h u r=> ?_⟩
    · rw[e] at h
      simp only[cO] at h;obtain⟨rfl,c⟩:=h;obtain⟨u,j,l⟩:=J.1 _ (by rw[<-c]);refine⟨.elim p z s u, ?_,.elim p z s l⟩
      show conA (.mk 9 0 [enc p,enc z,enc s,enc a]) _=_
      rw[Yv (k:=9) (n:=0) (ks:= [enc p,enc z,enc s,enc a]) (i:=3) (p:=(p4 (enc a)).1) (by simp) (Mf (enc a) _ (by rw[<-c]))]
      show Tr.mk 9 0 [enc p,enc z,enc s,conA (enc a) _]=_
      rw[j]
      rfl
    · rw[e] at h
      cases r with
      |ez=> exact F rfl
      |es=> exact hl ⟨_,rfl⟩
      |elim _ _ _ D=> exact J.2 h _ D
 |move p m a d E K=>
  by_cases hl: ∃b,m= .refl b
  · obtain⟨b,rfl⟩:=hl
    exact .root (by simp[enc,p4,rdx,kd,Tr.kind]) rfl (.mr p b a)
  · have hk:(enc m).kind≠11:=by intro h;cases m <;> simp[enc,Tr.kind] at h;exact hl ⟨_,rfl⟩
    have C: ¬rdx 12 [enc p,enc m,enc a]≠0:=fun h=> by
     rcases pl h with h|h|h|h|h|h <;> first|exact hk h.2|omega
    have e:p4 (enc (.move p m a))=(((1:Nat):Int)::(p4 (enc m)).1,(p4 (enc m)).2):=by
     show p4 (.mk 12 0 [enc p,enc m,enc a])=_
     rw[p4,if_neg C,if_neg (by omega),if_neg (by omega),if_pos rfl,b7,b7]
     rfl
    refine⟨fun q h=> ?_,fun h u r=> ?_⟩
    · rw[e] at h
      simp only[cO] at h;obtain⟨rfl,c⟩:=h;obtain⟨u,j,l⟩:=E.1 _ (by rw[<-c]);refine⟨.move p u a, ?_,.move p a l⟩
      show conA (.mk 12 0 [enc p,enc m,enc a]) _=_
      rw[Yv (k:=12) (n:=0) (ks:= [enc p,enc m,enc a]) (i:=1) (p:=(p4 (enc m)).1) (by simp) (Mf (enc m) _ (by rw[<-c]))]
      show Tr.mk 12 0 [enc p,conA (enc m) _,enc a]=_
      rw[j]
      rfl
    · rw[e] at h
      cases r with
      |mr=> exact hl ⟨_,rfl⟩
      |move _ _ D=> exact E.2 h _ D
 |fst a d=>
  by_cases hl: ∃T x y,a= .pair T x y
  · obtain⟨T,x,y,rfl⟩:=hl
    exact .root (by simp[enc,p4,rdx,kd,Tr.kind]) rfl (.fp T x y)
  · have hk:(enc a).kind≠14:=by intro h;cases a <;> simp[enc,Tr.kind] at h;exact hl ⟨_,_,_,rfl⟩
    have C: ¬rdx 15 [enc a]≠0:=fun h=> by
     rcases pl h with h|h|h|h|h|h <;> first|exact hk h.2|omega
    have e:p4 (enc (.fst a))=(((0:Nat):Int)::(p4 (enc a)).1,(p4 (enc a)).2):=by
     show p4 (.mk 15 0 [enc a])=_
     rw[p4,if_neg C,if_pos (.inr (.inl rfl)),b7]
     rfl
    refine⟨fun q h=> ?_,fun h u r=> ?_⟩
    · rw[e] at h
      simp only[cO] at h;obtain⟨rfl,c⟩:=h;obtain⟨u,j,l⟩:=d.1 _ (by rw[<-c]);refine⟨.fst u, ?_,.fst l⟩
      show conA (.mk 15 0 [enc a]) _=_
      rw[Yv (k:=15) (n:=0) (ks:= [enc a]) (i:=0) (p:=(p4 (enc a)).1) (by simp) (Mf (enc a) _ (by rw[<-c]))]
      show Tr.mk 15 0 [conA (enc a) _]=_
      rw[j]
      rfl
    · rw[e] at h
      cases r with
      |fp=> exact hl ⟨_,_,_,rfl⟩
      |fst D=> exact d.2 h _ D
 |snd a d=>
  by_cases hl: ∃T x y,a= .pair T x y
  · obtain⟨T,x,y,rfl⟩:=hl
    exact .root (by simp[enc,p4,rdx,kd,Tr.kind]) rfl (.sp T x y)
  · have hk:(enc a).kind≠14:=by intro h;cases a <;> simp[enc,Tr.kind] at h;exact hl ⟨_,_,_,rfl⟩
    have C: ¬rdx 16 [enc a]≠0:=fun h=> by
     rcases pl h with h|h|h|h|h|h <;> first|exact hk h.2|omega
    have e:p4 (enc (.snd a))=(((0:Nat):Int)::(p4 (enc a)).1,(p4 (enc a)).2):=by
     show p4 (.mk 16 0 [enc a])=_
     rw[p4,if_neg C,if_pos (.inr (.inr rfl)),b7]
     rfl
    refine⟨fun q h=> ?_,fun h u r=> ?_⟩
    · rw[e] at h
      simp only[cO] at h;obtain⟨rfl,c⟩:=h;obtain⟨u,j,l⟩:=d.1 _ (by rw[<-c]);refine⟨.snd u, ?_,.snd l⟩
      show conA (.mk 16 0 [enc a]) _=_
      rw[Yv (k:=16) (n:=0) (ks:= [enc a]) (i:=0) (p:=(p4 (enc a)).1) (by simp) (Mf (enc a) _ (by rw[<-c]))]
      show Tr.mk 16 0 [conA (enc a) _]=_
      rw[j]
      rfl
    · rw[e] at h
      cases r with
      |sp=> exact hl ⟨_,_,_,rfl⟩
      |snd D=> exact d.2 h _ D
theorem kD: ∀(f:Nat) (A:M.Tm) (x:Tr),b9 f (enc A)=(x,0)-> ∃B,x=enc B/\HR A B/\ ∀C,¬Hd B C
 |0,A,x,h=> by
  cases e:hdQ (enc A) with
  |none=>
   rw[zy e] at h;simp only[cO,and_true] at h;exact⟨A,h.symm,.refl A,(pu A).2 (Tt e)⟩
  |some p=> rw[xE e] at h;cases h
 |f+1,A,x,h=> by
  cases e:hdQ (enc A) with
  |none=>
   rw[zy e] at h;simp only[cO,and_true] at h;exact⟨A,h.symm,.refl A,(pu A).2 (Tt e)⟩
  |some p=>
   by_cases hc:j0 D0 (conA (enc A) p)=true
   · rw[Ym e hc] at h
     obtain⟨u,i,c⟩:=(pu A).1 p (Rz e);rw[i] at h;obtain⟨B,d,b,a⟩:=kD f u x h;exact⟨B,d,.step c b,a⟩
   · rw[mp e (Bool.eq_false_iff.2 hc)] at h
     cases h
theorem wi{A:M.Tm}{x:Tr}{f:Int}(h:W6 (enc A) f=(x,0)): ∃B,x=enc B/\HR A B/\(∀C,¬Hd B C)/\j0 D0 (enc B)=true:=by
 have hv:=(Hx h).2.2.2;unfold W6 at h
 split at h
 · obtain⟨B,rfl,b,a⟩:=kD _ A x h
   exact⟨B,rfl,b,a,hv⟩
 · cases h
theorem Qq{A B c:M.Tm}(h:HR A B)(hs: ∀C,¬Hd B C)(k:HR A c)(hc:M.hk c≠0):B=c:=by
 have:=h.after k hc;cases this with
 |refl=> rfl
 |step a _=> exact absurd a (hs _)
theorem FG{A B:M.Tm}(h:Yc (enc A) (enc B) 200=1):Cv A B:=by
 unfold Yc at h
 split at h
 · rename_i hv
   simp only[aW] at hv
   split at h
   · rename_i e
     rw[Md e];exact Cv.rfl' _
   · split at h
     · rename_i a
       split at h
       · rename_i c
         obtain⟨l,-,-⟩:=pA (200:Int).toNat (enc A) (V4 (200:Int).toNat (enc A)).1 hv.1 (by rw[<-a.1]);obtain⟨i,-,-⟩:=pA (200:Int).toNat (enc B) (V4 (200:Int).toNat (enc B)).1 hv.2.1 (by rw[<-a.2]);obtain⟨m,n,d⟩:=MD l rfl;obtain⟨b,k,j⟩:=MD i rfl;have:m=b:=Md (by rw[<-n,<-k,c]);subst this;exact⟨m,d,j⟩
       · simp at h
     · simp at h
 · simp at h
theorem dA{A B:M.Tm}(h:Yc (enc A) (enc B) 200=2): ¬Cv A B:=by
 intro hc;unfold Yc at h
 split at h
 · rename_i hv
   simp only[aW] at hv
   split at h
   · simp at h
   · split at h
     · rename_i e
       split at h
       · simp at h
       · rename_i j
         obtain⟨n,b,-⟩:=pA (200:Int).toNat (enc A) (V4 (200:Int).toNat (enc A)).1 hv.1 (by rw[<-e.1]);obtain⟨k,a,-⟩:=pA (200:Int).toNat (enc B) (V4 (200:Int).toNat (enc B)).1 hv.2.1 (by rw[<-e.2]);obtain⟨C,m,i⟩:=hc;obtain⟨q,p,d⟩:=n.meet (EC m);obtain⟨r,l,c⟩:=k.meet (EC i);rw[p.normal b] at d;rw[l.normal a] at c;exact j (X6.unique d c b a)
     · simp at h
 · simp at h
theorem eB{A B:M.Tm}(h:d4 (enc A) (enc B)=0):Cv A B:=FG (Vn h)
theorem Rk{A B:M.Tm}(h:Cv A B):d4 (enc A) (enc B)=0\/d4 (enc A) (enc B)=2:=by
 unfold d4
 split
 · exact .inl rfl
 · split
   · rename_i a
     exact absurd h (dA a)
   · exact .inr rfl
theorem Qr{B:M.Tm}(h:(enc B).kind=2): ∃n,B= .sort n:=by
 cases B <;> simp[enc,Tr.kind] at h;exact⟨_,rfl⟩
theorem VB{B:M.Tm}(h:(enc B).kind=3): ∃C R,B= .pi C R:=by
 cases B <;> simp[enc,Tr.kind] at h;exact⟨_,_,rfl⟩
theorem Rj{B:M.Tm}(h:(enc B).kind=10): ∃T a b,B= .id T a b:=by
 cases B <;> simp[enc,Tr.kind] at h;exact⟨_,_,_,rfl⟩
theorem mv{B:M.Tm}(h:(enc B).kind=13): ∃C R,B= .sg C R:=by
 cases B <;> simp[enc,Tr.kind] at h;exact⟨_,_,rfl⟩
end Go.Proofs.YtckhbnmfnpolgaaGreat
namespace Go.Proofs.YtckhbnmfnpolgaaGreat
open Go.RowKit
theorem Bx{w:aL}{base:Nat}{v:aT}{p:List Int}(h:w.ownsRow base 3 1 v p.length (p.map (Value.int .i64))): ∃B c,v= .slice B p.length c/\Oi w B p.length c p:=by
 obtain⟨B,c,rfl,d,a,b⟩:=mu h;exact⟨B,c,rfl,rfl,d,a,b⟩
end Go.Proofs.YtckhbnmfnpolgaaGreat
namespace Go.Proofs.YtckhbnmfnpolgaaGreat
open Go.RowKit
open M (Hd HR Cv Ty Lim Wb y6 U4)
def ctxE(G:List M.Tm):List Tr:=(G.map enc).reverse
theorem q28(G:List M.Tm):(ctxE G).length=G.length:=by simp[ctxE]
theorem yd(A:M.Tm)(G:List M.Tm):ctxE (A::G)=ctxE G++ [enc A]:=by simp[ctxE]
theorem OF{G:List M.Tm}{n:Nat}(h:n < G.length):kd (ctxE G) (G.length - 1 - n)=enc G[n]:=by
 unfold kd ctxE;rw[List.getD_eq_getElem?_getD,List.getElem?_reverse (by simp;omega)];simp only[List.length_map,List.getElem?_map];rw[show G.length - 1 -(G.length - 1 - n)=n by omega,List.getElem?_eq_getElem h]
 rfl
theorem aq(p:M.Tm):Sb (enc p)=enc (M.stepTy p):=by
 have b:=Tj 1 p 0;have a:=Tj 2 p 0;rw[kw] at b a;unfold Sb M.stepTy;simp only[enc,n5,nf];rw[show shfT 1 (enc p) 0=enc (p.ren fun i=> i+1) from b,show shfT 2 (enc p) 0=enc (p.ren fun i=> i+2) from a]
 rfl
theorem nA{G:List M.Tm}{n:Nat}(h:n < G.length):ji (ctxE G) (n:Int)=mkV (enc (G[n].ren fun i=> i+(n+1))):=by
 unfold ji;rw[if_neg (by rw[q28];omega),q28,show(n:Int).toNat=n by omega,OF h];have:=Tj (n+1) G[n] 0;rw[kw] at this;rw[<-this]
 rfl
theorem au{G:List M.Tm}{n:Nat}(h:n < G.length):M.lk G n=some (G[n].ren fun i=> i+(n+1)):=by
 unfold M.lk;rw[List.getElem?_eq_getElem h]
 rfl
section
variable (f : Nat) (G : List Tr)
theorem Qx{k:Int}{a:List Tr}{i:Nat}(h:E4 k i=0):da (S0 f) G k a i=S0 f G (kd a i):=by unfold da;rw[if_pos h]
theorem Yn{k:Int}{a:List Tr}(h:E4 k 1=1):da (S0 f) G k a 1=if 20<=G.length then some (j2,2) else S0 f (G++ [kd a 0]) (kd a 1):=by unfold da;rw[if_neg (by rw[h];decide)]
end
theorem DK{f:Nat}{G:List Tr}{k:Int}{a:List Tr}{i:Nat}{r:Tr×Int}(h:E4 k i=0)(e:da (S0 f) G k a i=some r):S0 f G (kd a i)=some r:=by rwa [Qx f G h] at e
theorem Wr{f:Nat}{G:List Tr}{k:Int}{a:List Tr}{s:Tr}(h:E4 k 1=1)(e:da (S0 f) G k a 1=some (s,0)):G.length < 20/\S0 f (G++ [kd a 0]) (kd a 1)=some (s,0):=by
 rw[Yn f G h] at e
 split at e
 · simp at e
 · exact⟨by omega,e⟩
theorem J1{k n:Int}{a:List Tr}{x:Tr}(h:j0 D0 (.mk k n a)=true)(hm:x∈a):j0 D0 x=true:=ny h hm
structure O6 (G:List M.Tm):Prop where
 wf:Wb G
 vd: ∀A∈G,j0 D0 (enc A)=true
theorem O6.nil:O6 []:=⟨Wb.nil,fun _ h=> by simp at h⟩
theorem O6.cons{G:List M.Tm}{A:M.Tm}(h:O6 G)(b:y6 G A)(v:j0 D0 (enc A)=true):O6 (A::G):=
 ⟨h.wf.cons b,fun B hB=> by
  rcases List.mem_cons.1 hB with rfl|hB
  · exact v
  · exact h.vd B hB⟩
def Rs(f:Nat):Prop:= ∀(G:List M.Tm) (t:M.Tm) (x:Tr),O6 G->j0 D0 (enc t)=true->S0 f (ctxE G) (enc t)=some (x,0)-> ∃A,x=enc A/\Ty G t A/\Lim G t/\j0 D0 (enc A)=true
theorem Sd{f:Nat}(ih:Rs f){G:List M.Tm}{A:M.Tm}{s:Tr}(hG:O6 G)(hv:j0 D0 (enc A)=true)(h:X0 (S0 f (ctxE G) (enc A)) 2=some (s,0)): ∃S i,s=enc (.sort i)/\Ty G A S/\HR S (.sort i)/\Lim G A/\y6 G A/\i<=3:=by
 obtain⟨u,e,d,c⟩:=We h;obtain⟨S,rfl,b,a,j⟩:=ih G A u hG hv e;obtain⟨B,rfl,r,-,-⟩:=wi d;obtain⟨i,rfl⟩:=Qr c;have hi:=M.lev_le (Lim.type b hG.wf a) r;exact⟨S,i,rfl,b,r,a,⟨a,i,hi,S,b,r⟩,hi⟩
theorem Wk{f:Nat}(ih:Rs f){G:List M.Tm}{t:M.Tm}{s:Tr}(hG:O6 G)(hv:j0 D0 (enc t)=true)(h:X0 (S0 f (ctxE G) (enc t)) 3=some (s,0)): ∃F C R,s=enc (.pi C R)/\Ty G t F/\HR F (.pi C R)/\Lim G t/\j0 D0 (enc C)=true/\j0 D0 (enc R)=true:=by
 obtain⟨u,i,c,b⟩:=We h;obtain⟨F,rfl,e,d,j⟩:=ih G t u hG hv i;obtain⟨B,rfl,r,-,a⟩:=wi c;obtain⟨C,R,rfl⟩:=VB b;exact⟨F,C,R,rfl,e,r,d,J1 a (by simp),J1 a (by simp)⟩
theorem Cj{f:Nat}(ih:Rs f){G:List M.Tm}{t:M.Tm}{s:Tr}(hG:O6 G)(hv:j0 D0 (enc t)=true)(h:X0 (S0 f (ctxE G) (enc t)) 13=some (s,0)): ∃F C R,s=enc (.sg C R)/\Ty G t F/\HR F (.sg C R)/\Lim G t/\j0 D0 (enc C)=true/\j0 D0 (enc R)=true:=by
 obtain⟨u,i,c,b⟩:=We h;obtain⟨F,rfl,e,d,j⟩:=ih G t u hG hv i;obtain⟨B,rfl,r,-,a⟩:=wi c;obtain⟨C,R,rfl⟩:=mv b;exact⟨F,C,R,rfl,e,r,d,J1 a (by simp),J1 a (by simp)⟩
theorem Qn{f:Nat}(ih:Rs f){G:List M.Tm}{t:M.Tm}{s:Tr}(hG:O6 G)(hv:j0 D0 (enc t)=true)(h:X0 (S0 f (ctxE G) (enc t)) 10=some (s,0)): ∃F T a b,s=enc (.id T a b)/\Ty G t F/\HR F (.id T a b)/\Lim G t/\j0 D0 (enc T)=true/\j0 D0 (enc a)=true/\j0 D0 (enc b)=true:=by
 obtain⟨u,k,e,d⟩:=We h;obtain⟨F,rfl,j,i,l⟩:=ih G t u hG hv k;obtain⟨B,rfl,r,-,c⟩:=wi e;obtain⟨T,a,b,rfl⟩:=Rj d;exact⟨F,T,a,b,rfl,j,r,i,J1 c (by simp),J1 c (by simp),J1 c (by simp)⟩
theorem Dl{f:Nat}(ih:Rs f){G:List M.Tm}{t W:M.Tm}{y:An}{u:Tr}(hG:O6 G)(hv:j0 D0 (enc t)=true)(h:W3 (S0 f (ctxE G) (enc t)) (enc W) y=some (u,0)): ∃X,Ty G t X/\Cv X W/\Lim G t/\y=some (u,0):=by
 obtain⟨s,b,c,e⟩:=ti h;obtain⟨X,rfl,d,a,-⟩:=ih G t s hG hv b;exact⟨X,d,eB c,a,e⟩
theorem qC{f:Nat}(ih:Rs f){G:List M.Tm}{p T:M.Tm}{y:An}{u:Tr}(hG:O6 G)(hv:j0 D0 (enc p)=true)(h:v9 (S0 f (ctxE G) (enc p)) (enc T) y=some (u,0)): ∃F C D k,Ty G p F/\HR F (.pi C D)/\Cv C T/\HR D (.sort k)/\Lim G p/\y=some (u,0):=by
 obtain⟨A,s,c,q,a,d,e,n,j,i⟩:=Nw h;obtain⟨F,C,D,rfl,m,l,b,-,-⟩:=Wk ih hG hv (s:=s) (by
  unfold X0 thn;rw[q];simp only[if_true];unfold i4;rw[if_neg (by rw[a];simp),if_neg (by rw[a];simpa using d),a])
 obtain⟨B,rfl,r,-,-⟩:=wi (show W6 (enc D) 200=(c,0) from n);obtain⟨k,rfl⟩:=Qr j;exact⟨F,C,D,k,m,l,eB e,r,b,i⟩
theorem snd: ∀f,Rs f
 |0=> fun G t x hG hv h=> by cases h
 |f+1=> fun G t x hG hv h=> by
  have ih:=snd f;cases t with
  |var n=>
   have d:some (ji (ctxE G) (n:Int))=some (x,0):=h;by_cases hn:n < G.length
   · rw[nA hn] at d
     obtain⟨v,rfl⟩:=Xf d;exact⟨_,rfl,.var (au hn),trivial,v⟩
   · unfold ji at d
     rw[if_pos (by rw[q28];omega)] at d;simp at d
  |sort n=>
   have d:some (if(n:Int)=3 then(j2,(1:Int)) else(m6 ((n:Int)+1),0))=some (x,0):=by
    rw[<-h];simp[enc,S0,Ub]
   split at d
   · simp at d
   · rename_i hn
     simp only[bX,cO,and_true] at d;have hle:(n:Int)<=3:=(Z4 (Z3 hv).1).2.2.1;refine⟨.sort (n+1),by rw[<-d];rfl,.sort,by show n < 3;omega, ?_⟩;have: ∀m:Fin 4,j0 D0 (enc (.sort m.val))=true:=by decide+kernel
     exact this ⟨n+1,by omega⟩
  |nat=>
   have d:some (m6 0,(0:Int))=some (x,0):=h;simp only[bX,cO,and_true] at d;exact⟨.sort 0,by rw[<-d];rfl,.nat,trivial,by decide+kernel⟩
  |zero=>
   have d:some (n5,(0:Int))=some (x,0):=h;simp only[bX,cO,and_true] at d;exact⟨.nat,by rw[<-d];rfl,.zero,trivial,by decide+kernel⟩
  |succ a=>
   have d:W3 (S0 f (ctxE G) (enc a)) (enc .nat) (some (n5,0))=some (x,0):=h;obtain⟨X,tX,cX,U,l⟩:=Dl ih hG (J1 hv (by simp)) d;simp only[bX,cO,and_true] at l;exact⟨.nat,by rw[<-l];rfl,.succ tX cX,U,by decide+kernel⟩
  |pi A B=>
   have d:thn (X0 (S0 f (ctxE G) (enc A)) 2) (fun a=> thn (X0 (da (S0 f) (ctxE G) 3 [enc A,enc B] 1) 2) fun b=> some (m6 (max a.num b.num),0))=some (x,0):=h;obtain⟨s,l,H⟩:=M8 d;obtain⟨S,i,rfl,Q,rA,V,bA,hi⟩:=Sd ih hG (J1 hv (by simp)) l;obtain⟨s2,L,K⟩:=M8 H;obtain⟨u,O,N,h8⟩:=We L;obtain⟨h9,J⟩:=Wr rfl O;have C8:=hG.cons bA (J1 hv (by simp));rw[show ctxE G++ [kd [enc A,enc B] 0]=ctxE (A::G) from(yd A G).symm] at J;obtain⟨S',j,rfl,tB,rB,lB,bB,hj⟩:=Sd ih C8 (J1 hv (by simp)) (A:=B) (s:=s2) (by
    unfold X0 thn;rw[show S0 f (ctxE (A::G)) (enc B)=some (u,0) from J];simp only[if_true];unfold i4;rw[if_neg (by rw[N];simp),if_neg (by rw[N];simpa using h8),N])
   simp only[bX,cO,and_true] at K;refine⟨.sort (max i j),by rw[<-K];simp only[enc,Tr.num,m6];congr 1;omega,.pi Q rA tB rB,⟨V,lB⟩, ?_⟩;have: ∀m:Fin 4,j0 D0 (enc (.sort m.val))=true:=by decide+kernel
   exact this ⟨max i j,by omega⟩
  |sg A B=>
   have d:thn (X0 (S0 f (ctxE G) (enc A)) 2) (fun a=> thn (X0 (da (S0 f) (ctxE G) 13 [enc A,enc B] 1) 2) fun b=> some (m6 (max a.num b.num),0))=some (x,0):=h;obtain⟨s,l,H⟩:=M8 d;obtain⟨S,i,rfl,Q,rA,V,bA,hi⟩:=Sd ih hG (J1 hv (by simp)) l;obtain⟨s2,L,K⟩:=M8 H;obtain⟨u,O,N,h8⟩:=We L;obtain⟨h9,J⟩:=Wr rfl O;have C8:=hG.cons bA (J1 hv (by simp));rw[show ctxE G++ [kd [enc A,enc B] 0]=ctxE (A::G) from(yd A G).symm] at J;obtain⟨S',j,rfl,tB,rB,lB,bB,hj⟩:=Sd ih C8 (J1 hv (by simp)) (A:=B) (s:=s2) (by
    unfold X0 thn;rw[show S0 f (ctxE (A::G)) (enc B)=some (u,0) from J];simp only[if_true];unfold i4;rw[if_neg (by rw[N];simp),if_neg (by rw[N];simpa using h8),N])
   simp only[bX,cO,and_true] at K;refine⟨.sort (max i j),by rw[<-K];simp only[enc,Tr.num,m6];congr 1;omega,.sg Q rA tB rB,⟨V,lB⟩, ?_⟩;have: ∀m:Fin 4,j0 D0 (enc (.sort m.val))=true:=by decide+kernel
   exact this ⟨max i j,by omega⟩
  |lam A t=>
   have d:thn (X0 (S0 f (ctxE G) (enc A)) 2) (fun _=> thn (da (S0 f) (ctxE G) 4 [enc A,enc t] 1) fun b=> thn (some (mkV (.mk 3 0 [enc A,b]))) fun out=> thn (S0 f (ctxE G) out) fun _=> some (out,0))=some (x,0):=h;obtain⟨s,l,H⟩:=M8 d;obtain⟨S,i,rfl,Q,rA,V,bA,hi⟩:=Sd ih hG (J1 hv (by simp)) l;obtain⟨b,L,K⟩:=M8 H;obtain⟨O,N⟩:=Wr rfl L;have C8:=hG.cons bA (J1 hv (by simp));rw[show ctxE G++ [kd [enc A,enc t] 0]=ctxE (A::G) from(yd A G).symm] at N;obtain⟨B,rfl,tB,lB,vB⟩:=ih (A::G) t b C8 (J1 hv (by simp)) N;obtain⟨h8,h9⟩:=qv K;obtain⟨v,e⟩:=ds h8;rw[e] at h9;obtain⟨s3,J,h11⟩:=M8 h9;obtain⟨P,rfl,tP,lP,-⟩:=ih G (.pi A B) s3 hG v J;simp only[bX,cO,and_true] at h11;refine⟨.pi A B,h11.symm,.lam Q rA tB,⟨V,lB,fun B' k' hB hk=> ?_⟩,v⟩;obtain rfl:=tB.det hB;cases tP with
   |pi k1 k2 k3 k4=>
    have:=M.lev_le (Lim.type (.pi k1 k2 k3 k4) hG.wf lP) (.refl _);have e2:=hk.det ⟨_,k3,k4⟩;omega
  |app g a=>
   have d:thn (X0 (S0 f (ctxE G) (enc g)) 3) (fun s=> W3 (S0 f (ctxE G) (enc a)) (kd s.kids 0) (some (mkV (Z0 (enc a) (kd s.kids 1) 0 0))))=some (x,0):=h;obtain⟨s,l,H⟩:=M8 d;obtain⟨F,C,R,rfl,tF,rF,lF,vC,vR⟩:=Wk ih hG (J1 hv (by simp)) l;obtain⟨X,tX,cX,U,L⟩:=Dl ih hG (J1 hv (by simp)) (W:=C) H;obtain⟨v,rfl⟩:=Xf L;have e:Z0 (enc a) (kd (enc (.pi C R)).kids 1) 0 0=enc (R.inst a):=tm R a;rw[e] at v⊢;exact⟨_,rfl,.app tF rF tX cX,⟨lF,U⟩,v⟩
  |elim p z s a=>
   have d:v9 (S0 f (ctxE G) (enc p)) (enc .nat) (thn (some (mkV (.mk 5 0 [enc p,.mk 7 0 []]))) fun w=> W3 (S0 f (ctxE G) (enc z)) w (thn (some (mkV (Sb (enc p)))) fun w2=> W3 (S0 f (ctxE G) (enc s)) w2 (W3 (S0 f (ctxE G) (enc a)) (enc .nat) (some (mkV (.mk 5 0 [enc p,enc a]))))))=some (x,0):=h;obtain⟨F,C,D,k,tF,rF,cC,rD,lF,l⟩:=qC ih hG (J1 hv (by simp)) d;obtain⟨H,L⟩:=qv l;obtain⟨v1,e1⟩:=ds H;rw[e1] at L;obtain⟨Z,tZ,cZ,lZ,K⟩:=Dl ih hG (J1 hv (by simp)) (W:= .app p .zero) L;obtain⟨O,N⟩:=qv K;obtain⟨v2,e2⟩:=ds O;rw[e2,aq] at N;obtain⟨S,tS,cS,lS,h8⟩:=Dl ih hG (J1 hv (by simp)) N;obtain⟨X,tX,cX,U,h9⟩:=Dl ih hG (J1 hv (by simp)) h8;obtain⟨v3,rfl⟩:=Xf h9;exact⟨.app p a,rfl,.elim tF rF cC rD tZ cZ tS cS tX cX,⟨lF,lZ,lS,U⟩,v3⟩
  |id T a b=>
   have d:thn (X0 (S0 f (ctxE G) (enc T)) 2) (fun s=> W3 (S0 f (ctxE G) (enc a)) (enc T) (W3 (S0 f (ctxE G) (enc b)) (enc T) (some (m6 s.num,0))))=some (x,0):=h;obtain⟨s,l,H⟩:=M8 d;obtain⟨S,i,rfl,Q,rA,V,bA,hi⟩:=Sd ih hG (J1 hv (by simp)) l;obtain⟨X,tX,cX,U,L⟩:=Dl ih hG (J1 hv (by simp)) H;obtain⟨Y,tY,cY,lY,K⟩:=Dl ih hG (J1 hv (by simp)) L;simp only[bX,cO,and_true] at K;refine⟨.sort i,by rw[<-K];rfl,.id Q rA tX cX tY cY,⟨V,U,lY⟩, ?_⟩;have: ∀m:Fin 4,j0 D0 (enc (.sort m.val))=true:=by decide+kernel
   exact this ⟨i,by omega⟩
  |refl a=>
   have d:thn (S0 f (ctxE G) (enc a)) (fun s=> thn (X0 (S0 f (ctxE G) s) 2) fun _=> some (mkV (.mk 10 0 [s,enc a,enc a])))=some (x,0):=h;obtain⟨s,l,H⟩:=M8 d;obtain⟨A,rfl,Q,V,vA⟩:=ih G a s hG (J1 hv (by simp)) l;obtain⟨s2,L,K⟩:=M8 H;obtain⟨S,i,rfl,tS,rS,lS,bS,hi⟩:=Sd ih hG vA L;obtain⟨v,rfl⟩:=Xf K;refine⟨.id A a a,rfl,.refl Q,⟨V,fun B' k' hB hk=> ?_⟩,v⟩;obtain rfl:=Q.det hB;have:=hk.det ⟨S,tS,rS⟩;omega
  |move p e a=>
   have d:thn (X0 (S0 f (ctxE G) (enc e)) 10) (fun s=> v9 (S0 f (ctxE G) (enc p)) (kd s.kids 0) (thn (some (mkV (.mk 5 0 [enc p,kd s.kids 1]))) fun w=> W3 (S0 f (ctxE G) (enc a)) w (some (mkV (.mk 5 0 [enc p,kd s.kids 2])))))=some (x,0):=h;obtain⟨s,l,H⟩:=M8 d;obtain⟨E,T,b,c,rfl,tE,rE,lE,vT,vb,vc⟩:=Qn ih hG (J1 hv (by simp)) l;obtain⟨F,C,D,k,tF,rF,cC,rD,lF,L⟩:=qC ih hG (J1 hv (by simp)) (T:=T) H;obtain⟨K,O⟩:=qv L;obtain⟨v1,e1⟩:=ds K;rw[e1] at O;obtain⟨X,tX,cX,U,N⟩:=Dl ih hG (J1 hv (by simp)) (W:= .app p b) O;obtain⟨v2,rfl⟩:=Xf N;exact⟨.app p c,rfl,.move tE rE tF rF cC rD tX cX,⟨lF,lE,U⟩,v2⟩
  |pair T a b=>
   have d:thn (X0 (S0 f (ctxE G) (enc T)) 2) (fun _=> thn (some (i4 (enc T) 13)) fun s=> W3 (S0 f (ctxE G) (enc a)) (kd s.kids 0) (thn (some (mkV (Z0 (enc a) (kd s.kids 1) 0 0))) fun w=> W3 (S0 f (ctxE G) (enc b)) w (some (enc T,0))))=some (x,0):=h;obtain⟨s,l,H⟩:=M8 d;obtain⟨S,i,rfl,Q,rA,V,bA,hi⟩:=Sd ih hG (J1 hv (by simp)) l;obtain⟨L,K⟩:=qv H;obtain⟨O,N⟩:=ry L;generalize (i4 (enc T) 13).1=q at K O N;obtain⟨B,rfl,r,-,vB⟩:=wi O;obtain⟨C,R,rfl⟩:=mv N;obtain⟨X,tX,cX,U,h8⟩:=Dl ih hG (J1 hv (by simp)) (W:=C) K;obtain⟨h9,J⟩:=qv h8;obtain⟨v1,e1⟩:=ds h9;have e:Z0 (enc a) (kd (enc (.sg C R)).kids 1) 0 0=enc (R.inst a):=tm R a;rw[e1,e] at J;obtain⟨Y,tY,cY,lY,h11⟩:=Dl ih hG (J1 hv (by simp)) J;simp only[bX,cO,and_true] at h11;exact⟨T,h11.symm,.pair Q rA r tX cX tY cY,⟨V,U,lY⟩,J1 hv (by simp)⟩
  |fst a=>
   have d:thn (X0 (S0 f (ctxE G) (enc a)) 13) (fun s=> some (kd s.kids 0,0))=some (x,0):=h;obtain⟨s,l,H⟩:=M8 d;obtain⟨F,C,R,rfl,tF,rF,lF,vC,vR⟩:=Cj ih hG (J1 hv (by simp)) l;simp only[bX,cO,and_true] at H;exact⟨C,H.symm,.fst tF rF,lF,vC⟩
  |snd a=>
   have d:thn (X0 (S0 f (ctxE G) (enc a)) 13) (fun s=> some (mkV (Z0 (.mk 15 0 [enc a]) (kd s.kids 1) 0 0)))=some (x,0):=h;obtain⟨s,l,H⟩:=M8 d;obtain⟨F,C,R,rfl,tF,rF,lF,vC,vR⟩:=Cj ih hG (J1 hv (by simp)) l;obtain⟨v,rfl⟩:=Xf H;have e:Z0 (.mk 15 0 [enc a]) (kd (enc (.sg C R)).kids 1) 0 0=enc (R.inst (.fst a)):=tm R (.fst a);rw[e] at v⊢;exact⟨_,rfl,.snd tF rF,lF,v⟩
end Go.Proofs.YtckhbnmfnpolgaaGreat
namespace Go.Proofs.YtckhbnmfnpolgaaGreat
open Go Go.RowKit
def g9(R:List Nat)(w w':aL):Prop:=w.heap.size<=w'.heap.size/\ ∀b,b < w.heap.size->b∉R->w'.heap[b]? =w.heap[b]?
theorem Ext.offR{R:List Nat}{w w':aL}(h:Ext w w'):g9 R w w':=⟨h.size,fun b a _=> h.heap b a⟩
theorem g9.trans{R:List Nat}{a b c:aL}(h:g9 R a b)(k:g9 R b c):g9 R a c:=⟨bL h.1 k.1,fun x hx hr=>(k.2 x (aY hx h.1) hr).trans (h.2 x hx hr)⟩
theorem g9.cell{R:List Nat}{w w':aL}(h:g9 R w w'){b o:Nat}{v:aT}(hc:w.cell? ⟨b,o,none⟩=some v)(hr:b∉R):w'.cell? ⟨b,o,none⟩=some v:=
 (World.cell?_of_block (w:=w) (a:=⟨b,o,none⟩) (h.2 b (World.block_lt_of_cell? w ⟨b,o,none⟩ hc) hr)).trans hc
theorem g9.set3{R:List Nat}{a b:aL}(h:g9 R a b){r:Nat}(hr:r∈R)(x y z:aT):g9 R a (((b.setCell ⟨r,0,none⟩ x).setCell ⟨r,1,none⟩ y).setCell ⟨r,2,none⟩ z):=
 ⟨by simpa using h.1,fun c hc hn=> by
  have d:c≠r:=fun e=> hn (e▸hr)
  rw[aM _ _ _ _ d,aM _ _ _ _ d,aM _ _ _ _ d];exact h.2 c hc hn⟩
theorem InT.offR{R:List Nat}{w w':aL}{t:Tr}{v:aT}(h:InT w (fun b=> b∉R) t v)(e:g9 R w w'):InT w' (fun b=> b∉R) t v:=
 InT.mono (fun b a=> a.1) (fun b a=> e.2 b a.2 a.1) h.bound
theorem InT.offB{B:Nat}{R:List Nat}{w w':aL}{t:Tr}{v:aT}(h:InT w (fun b=> B<=b/\b∉R) t v)(e:g9 R w w'):InT w' (fun b=> B<=b/\b∉R) t v:=
 InT.mono (fun b a=> a.1) (fun b a=> e.2 b a.2 a.1.2) h.bound
def Rb(B:Nat)(R:List Nat)(w:aL)(r:Nat)(t:Tr):Prop:= ∃x y z,w.heap[r]? =some (.cells #[x,y,z] 25 (0,0))/\InT w (fun b=> B<=b/\b∉R) t (.agg #[x,y,z])
def E3(B:Nat)(R:List Nat)(T:Nat->Tr)(x y:aL×Unit):Prop:=g9 R x.1 y.1/\Below B x.1 y.1/\ ∀r,r∈R->y.1.heap[r]? =x.1.heap[r]? \/Rb B R y.1 r (T r)
section
variable {B : Nat} {R : List Nat} {T : Nat → Tr} {x y z : aL × Unit}
theorem Rb.e{r:Nat}(h:Rb B R x.1 r (T r))(hr:r∈R)(e:E3 B R T x y):Rb B R y.1 r (T r):=by
 rcases e.2.2 r hr with k|k
 · obtain⟨a,b,c,i,d⟩:=h
   exact⟨a,b,c,k.trans i,d.offB e.1⟩
 · exact k
theorem E3.refl:E3 B R T x x:=⟨(xr _).offR,Below.refl _ _,fun _ _=> .inl rfl⟩
theorem E3.trans(h:E3 B R T x y)(k:E3 B R T y z):E3 B R T x z:=⟨h.1.trans k.1,Below.trans h.2.1 k.2.1,fun r hr=> by
 rcases k.2.2 r hr with b|b
 · rcases h.2.2 r hr with a|a
   · exact .inl (b.trans a)
   · exact .inr (Rb.e a hr k)
 · exact .inr b⟩
theorem E3.ext{w':aL}(a: ∀r,r∈R->r < x.1.heap.size)(hB:B<=x.1.heap.size)(e:Ext x.1 w'):E3 B R T x (w',()):=⟨e.offR,Below.mono e hB,fun r hr=> .inl (e.heap r (a r hr))⟩
theorem E3.lt{w w':aL}(h:E3 B R T (w,()) (w',()))(a: ∀r,r∈R->r < w.heap.size): ∀r,r∈R->r < w'.heap.size:=fun r hr=> aY (a r hr) h.1.1
theorem E3.put{w:aL}{r:Nat}(hr:r∈R)(hB:B<=r){u v t:aT}(i: ∃a b c,w.heap[r]? =some (.cells #[a,b,c] 25 (0,0)))(h:InT w (fun b=> B<=b/\b∉R) (T r) (.agg #[u,v,t])):
 E3 B R T (w,()) (((w.setCell ⟨r,0,none⟩ u).setCell ⟨r,1,none⟩ v).setCell ⟨r,2,none⟩ t,())/\Rb B R (((w.setCell ⟨r,0,none⟩ u).setCell ⟨r,1,none⟩ v).setCell ⟨r,2,none⟩ t) r (T r):=by
 obtain⟨a,b,c,i⟩:=i;have e:g9 R w (((w.setCell ⟨r,0,none⟩ u).setCell ⟨r,1,none⟩ v).setCell ⟨r,2,none⟩ t):=g9.set3 (xr w).offR hr u v t;have H:Rb B R (((w.setCell ⟨r,0,none⟩ u).setCell ⟨r,1,none⟩ v).setCell ⟨r,2,none⟩ t) r (T r):=⟨u,v,t,N5 (N5 (N5 i 0 u) 1 v) 2 t,h.offB e⟩;refine⟨⟨e,Below.setCell (Below.setCell (Below.setCell (Below.refl _ _) hB u) hB v) hB t,fun q j=> ?_⟩,H⟩;by_cases d:q=r
 · exact .inr (d▸H)
 · exact .inl (by rw[aM _ _ _ _ d,aM _ _ _ _ d,aM _ _ _ _ d])
end
inductive S3 where
 |any
 |tree (t:Tr)
 |put (r:Nat)
def S3.holds(B:Nat)(R:List Nat)(T:Nat->Tr):S3->aT->aL×Unit->Prop
 | .any,_,_=> True
 | .tree t,v,x=> InT x.1 (fun b=> B<=b/\b∉R) t v
 | .put r,_,x=> r∈R/\Rb B R x.1 r (T r)
def wA(B:Nat)(R:List Nat)(T:Nat->Tr)(l:List S3)(i:Nat)(v:aT)(x:aL×Unit):Prop:=(l.getD i .any).holds B R T v x
theorem Up{B:Nat}{R:List Nat}{T:Nat->Tr}(l:List S3)(i:Nat)(v:aT)(x y:aL×Unit)(h:wA B R T l i v x)(e:E3 B R T x y):wA B R T l i v y:=by
 unfold wA at h⊢;cases hs:l.getD i .any with
 |any=> trivial
 |tree t=> rw[hs] at h;exact InT.offB h e.1
 |put r=> rw[hs] at h;exact⟨h.1,h.2.e h.1 e⟩
theorem lC{P:Program}{ops:Array Oper}{Q:Exit->Act->aL->Prop}{S:aL->Prop}{b:Array Bool}{d:Act}{fuel:Nat}{W:aL}(B:Nat)(R:List Nat)(T:Nat->Tr)(m N:Nat)(lT:Array Bool)(e:Nat)(l:List S3)(is:List Nat)(hS: ∀w,g9 R W w->S w)(hc:(((List.range m).filter (fun j=> !Ord.isOn b j)==is)&& Ord.okX ops b m N m && fuel==Ord.opnO b ops.size && Ord.doneO b m==lT && Ord.opnO lT ops.size==e)=true)(hN:d.tmps.size=N)
 (c:Ord.StL P ops Q b m (E3 B R T) (wA B R T l) d (W,()) is)
 (fin: ∀(v:Nat->aT) w,E3 B R T (W,()) (w,())->(∀j,j < m->Ord.isOn b j=false->wA B R T l j (v j) (w,()))->iR P .any ops Q S e lT (is.foldl (fun a j=> a.put (Ord.dstOf ops j) (v j)) d) w):
 iR P .any ops Q S fuel b d W:=by
 simp only[aW,beq_iff_eq] at hc;obtain⟨⟨⟨⟨i,s⟩,r⟩,p⟩,q⟩:=hc;exact Ord.wpAnyH_orderX (w0:=(W,())) i s hN r p q (fun h=> absurd h (Nat.lt_irrefl _)) E3.refl (fun _ _ _ h n=> h.trans n) (Up l) (fun w z h=> hS w h.1) c (fun v w z h k=> by rw[Ord.putN_l is i];exact fin v w h k)
theorem KA.offR{R:List Nat}{w w':aL}{b o:Nat}{t:Tr}{k c:Int}{j:Option Addr}{i d:Nat}(h:KA w (fun b=> b∉R) b o t k c j i d)(a:b∉R)(e:g9 R w w'):KA w' (fun b=> b∉R) b o t k c j i d:=
 ⟨e.cell h.1 a,e.cell h.2.1 a,e.cell h.2.2.1 a,aY h.2.2.2.1 e.1,h.2.2.2.2.offR e⟩
theorem E3.box{B:Nat}{R:List Nat}{T:Nat->Tr}{W w:aL}{z:Unit}(h:E3 B R T (W,()) (w,z)){r:Nat}(hr:r∈R)(d: ∃a b c,W.heap[r]? =some (.cells #[a,b,c] 25 (0,0))): ∃a b c,w.heap[r]? =some (.cells #[a,b,c] 25 (0,0)):=by
 rcases h.2.2 r hr with k|⟨a,b,c,k,-⟩
 · obtain⟨a,b,c,d⟩:=d
   exact⟨a,b,c,k.trans d⟩
 · exact⟨a,b,c,k⟩
def sd(r:Tr×Int)(i:Nat):Tr:=if r.2=0 then kd r.1.kids i else j2
theorem jr{s:Tr}{c:Int}{i:Nat}(hc:c≠0):sd (s,c) i=j2:=if_neg hc
theorem tf{s:Tr}{i:Nat}:sd (s,0) i=kd s.kids i:=if_pos rfl
def eK(w:aL)(r:Tr×Int)(e:Ending)(w':aL):Prop:= ∃c d a,e= .returned (.tuple #[c,d,a,.int .i64 r.2])/\InT w' (fun b=> w.heap.size<=b) (sd r 0) c/\InT w' (fun b=> w.heap.size<=b) (sd r 1) d/\InT w' (fun b=> w.heap.size<=b) (sd r 2) a/\Ext w w'
def EH(g:Nat)(I:aL->Prop)(x y:aL×List Nat):Prop:=
 D1 [g] x.1 y.1/\(∀b,b∈x.2->b∈y.2)/\(∀b,b∈y.2->b∈x.2\/x.1.heap.size<=b)/\(∀b,b∈y.2->b < y.1.heap.size)/\g∈x.2/\I y.1
section
variable {g : Nat} {I : aL → Prop} {x y : aL × List Nat} {W w w' : aL} {z : List Nat} {M : Nat → Prop} {t : Tr} {v : aT} {o : Obj}
theorem EH.start(a:g < w.heap.size)(h:I w):EH g I (w, [g]) (w, [g]):=⟨D1.refl _ _,fun _ h=> h,fun _ h=> .inl h,fun b h=> by rw[List.mem_singleton.1 h];exact a,List.mem_singleton.2 rfl,h⟩
theorem EH.trans{z:aL×List Nat}(h:EH g I x y)(k:EH g I y z):EH g I x z:=by
 refine⟨h.1.trans k.1,fun b a=> k.2.1 b (h.2.1 b a),fun b a=> ?_,k.2.2.2.1,h.2.2.2.2.1,k.2.2.2.2.2⟩;rcases k.2.2.1 b a with e|e
 · exact h.2.2.1 b e
 · exact .inr (bL h.1.size e)
theorem EH.has(h:EH g I x (w,z)):g∈z:=h.2.1 g h.2.2.2.2.1
theorem EH.put(h:EH g I x (w,z))(e:D1 [g] w w')(k:I w'):EH g I (w,z) (w',z):=
 ⟨e,fun _ h=> h,fun _ h=> .inl h,fun b a=> aY (h.2.2.2.1 b a) e.size,h.has,k⟩
theorem EH.same(h:EH g I x (w,z))(e:Ext w w')(k:I w'):EH g I (w,z) (w',z):=h.put (oE e) k
theorem EH.box(h:EH g I x (w,z))(k:I (w.alloc o)):EH g I (w,z) (w.alloc o,w.heap.size::z):=by
 refine⟨(D1.refl _ _).alloc _,fun _ h=> List.mem_cons_of_mem _ h,fun b a=> ?_,fun b a=> ?_,h.has,k⟩
 · rcases List.mem_cons.1 a with rfl|a
   · exact .inr (aN _)
   · exact .inl a
 · have:(w.alloc o).heap.size=w.heap.size+1:=by simp
   rcases List.mem_cons.1 a with rfl|a
   · show w.heap.size <(w.alloc o).heap.size;omega
   · have:=h.2.2.2.1 b a;show b <(w.alloc o).heap.size;simp only at this;omega
theorem Mz.laterH(h:EH g I x y){b:Nat}(a:Mz M x.2 b/\b < x.1.heap.size):Mz M y.2 b:=by
 refine⟨a.1.1,fun e=> ?_⟩;rcases h.2.2.1 b e with f|f
 · exact a.1.2 f
 · have:=a.2
   omega
theorem InT.laterH(h:InT x.1 (Mz M x.2) t v)(e:EH g I x y):InT y.1 (Mz M y.2) t v:=
 InT.mono (fun b a=> Mz.laterH e a) (fun b a=> e.1.block b a.2 fun k=> a.1.2 (List.mem_singleton.1 k▸e.2.2.2.2.1)) h.bound
theorem InK.laterH{A:Option Addr}{c:List Tr}(h:InK x.1 (Mz M x.2) A c)(e:EH g I x y):InK y.1 (Mz M y.2) A c:=
 InK.mono (fun b a=> Mz.laterH e a) (fun b a=> e.1.block b a.2 fun k=> a.1.2 (List.mem_singleton.1 k▸e.2.2.2.2.1)) h.bound
theorem InT.oldH(h:InT W M t v)(c: ∀b,M b->b≠g)(e:EH g I (W, [g]) (w,z)):InT w (Mz M z) t v:=
 InT.laterH (x:=(W, [g])) (y:=(w,z)) (InT.mono (fun b a=>⟨a,fun h=> c b a (List.mem_singleton.1 h)⟩) (fun _ _=> rfl) h) e
theorem np(hN: ∀b,W.heap.size<=b->M b)(h:EH g I (W, [g]) (w,z)): ∀b,w.heap.size<=b->Mz M z b:=
 fun b a=>⟨hN b (bL h.1.size a),fun e=> by have:=h.2.2.2.1 b e;simp only at this;omega⟩
def Sp.beyond(g:Nat):Sp->Prop
 | .box W=> g < W.heap.size
 |_=> True
theorem Sp.extH: ∀{s:Sp} {v:aT},s.beyond g->s.holdsG v x->EH g I x y->s.holdsG v y
 | .any,_,_,_,_=> trivial
 | .val u,_,_,h,_=> h
 | .tree M t,_,_,h,e=> InT.laterH h e
 | .row M ts,_,_,h,e=> by
  obtain⟨A,c,d,a,i,j⟩:=h;exact⟨A,c,d,a,i,InK.laterH j e⟩
 | .two M t c,_,_,h,e=> by
  obtain⟨u,d,a⟩:=h;exact⟨u,d,InT.laterH a e⟩
 | .box W,_,m,h,e=> by
  obtain⟨b,d,l,a,i⟩:=h;refine⟨b,d,e.2.1 b l,a,(e.1.block b (O1 i) fun k=> ?_).trans i⟩;have j:b=g:=List.mem_singleton.1 k;have:g < W.heap.size:=m;omega
end
def Sp.allB(g:Nat):List Sp->Prop
 | []=> True
 |s::l=> s.beyond g/\Sp.allB g l
theorem Sp.allB.get{g:Nat}: ∀{l:List Sp} {i:Nat},Sp.allB g l->(l.getD i .any).beyond g
 | [],_,_=> trivial
 |s::l,0,h=> h.1
 |s::l,i+1,h=> by
  have:=Sp.allB.get (l:=l) (i:=i) h.2
  simpa using this
theorem mE{P:Program}{ops:Array Oper}{Q:Exit->Act->aL->Prop}{S:aL->Prop}{b:Array Bool}{d:Act}{fuel:Nat}{W:aL}(g:Nat)(I:aL->Prop)(m N:Nat)(lT:Array Bool)(n:Nat)(l:List Sp)(is:List Nat)(u:g < W.heap.size)(D:I W)(hl:Sp.allB g l)(hS: ∀w,D1 [g] W w->S w)(hc:(((List.range m).filter (fun j=> !Ord.isOn b j)==is)&& Ord.okX ops b m N m && fuel==Ord.opnO b ops.size && Ord.doneO b m==lT && Ord.opnO lT ops.size==n)=true)(hN:d.tmps.size=N)
 (c:Ord.StL P ops Q b m (EH g I) (jc l) d (W, [g]) is)
 (fin: ∀(v:Nat->aT) w z,EH g I (W, [g]) (w,z)->(∀j,j < m->Ord.isOn b j=false->jc l j (v j) (w,z))->iR P .any ops Q S n lT (is.foldl (fun a j=> a.put (Ord.dstOf ops j) (v j)) d) w):
 iR P .any ops Q S fuel b d W:=by
 simp only[aW,beq_iff_eq] at hc;obtain⟨⟨⟨⟨p,E⟩,C⟩,r⟩,A⟩:=hc;exact Ord.wpAnyH_orderX (w0:=(W, [g])) p E hN C r A (fun h=> absurd h (Nat.lt_irrefl _)) (EH.start u D) (fun _ _ _ h q=> h.trans q) (G:=jc l) (fun i v x y h e=> Sp.extH (s:=l.getD i .any) hl.get h e) (fun w z h=> hS w h.1) c (fun v w z h k=> by rw[Ord.putN_l is p];exact fin v w z h k)
def Ql(g:Nat)(P:Prop)(w:aL):Prop:= ∃z,w.heap[g]? =some (.cells #[.bool z] 4 (0,0))/\(P->z=true)
section
variable {g : Nat} {P : Prop} {x : aL × List Nat} {w w' : aL} {z : List Nat} {o : Obj}
theorem Ql.later(h:Ql g P w)(e:Ext w w'):Ql g P w':=by
 obtain⟨y,b,a⟩:=h;exact⟨y,e.blk b,a⟩
theorem EH.ok(h:EH g (Ql g P) x (w,z)):Ql g P w:=h.2.2.2.2.2
theorem EH.ex(h:EH g (Ql g P) x (w,z))(e:Ext w w'):EH g (Ql g P) (w,z) (w',z):=h.same e (h.ok.later e)
theorem EH.bx(h:EH g (Ql g P) x (w,z)):EH g (Ql g P) (w,z) (w.alloc o,w.heap.size::z):=h.box (h.ok.later ((xr _).alloc _))
end
theorem ZF{P:Program}{ops:Array Oper}{Q:Exit->Act->aL->Prop}{S:aL->Prop}{w:aL}{l:Array Bool}{a:Act}{f:Nat}{b c:Oper}{i j:Nat}(hr:Region.ready .any ops l= [i,j])(k:ops[i]? =some b)(m:ops[j]? =some c)(e:b.guard=none)(n:c.guard=none)
 (h: ∀K:Act->aL->Prop,Shut (∀a w,S w->(S w->iR P .any ops Q S f (l.setIfInBounds i true) a w)->K a w)->b.wp P a w K Q)
 (d: ∀K:Act->aL->Prop,Shut (∀a w,S w->(S w->iR P .any ops Q S f (l.setIfInBounds j true) a w)->K a w)->c.wp P a w K Q):iR P .any ops Q S (f+1) l a w:=by
 refine wpAnyH_ready hr (by simp) (AllReadyH.cons k (fun K hK=> ?_) (AllReadyH.cons m (fun K hK=> ?_) AllReadyH.nil))
 · rw[if_pos (by unfold Region.wanted;rw[e])]
   exact h K hK
 · rw[if_pos (by unfold Region.wanted;rw[n])]
   exact d K hK
abbrev Nc(g:Nat):aT:= .pointer (some ⟨g,0,none⟩)
def set3(w:aL)(g:Nat)(x y z:aT):aL:=((w.setCell ⟨g,0,none⟩ x).setCell ⟨g,1,none⟩ y).setCell ⟨g,2,none⟩ z
theorem gD{w:aL}{g:Nat}{j i d c b a:aT}{e:TypeId}(h:w.heap[g]? =some (.cells #[j,i,d] e (0,0))):(set3 w g c b a).heap[g]? =some (.cells #[c,b,a] e (0,0)):=N5 (N5 (N5 h 0 c) 1 b) 2 a
theorem Qu{w:aL}{g b:Nat}{x y z:aT}(h:g≠b):(set3 w g x y z).heap[b]? =w.heap[b]? :=by
 unfold set3;rw[aM _ _ _ _ h.symm,aM _ _ _ _ h.symm,aM _ _ _ _ h.symm]
def dk(ops:Array Oper)(l lT:Array Bool)(i j p q:Nat):Bool:=
 let s:=fun(l:Array Bool) k=> l.setIfInBounds k true
 let r:=Region.ready .any ops
 r l== [i,j]&& r (s l i)== [j]&& r (s l j)== [i]&& r (s (s l i) j)== [p]&& r (s (s (s l i) j) p)== [q]&& s (s l j) i==s (s l i) j && s (s (s (s l i) j) p) q==lT
theorem sE{P:Program}{ops:Array Oper}{Q:Exit->Act->aL->Prop}{S:aL->Prop}{w:aL}{l lT:Array Bool}{a:Act}{f:Nat}{L O U V:Oper}{x0 x1 x2 y0 y1 y2 z0 z1 z2:aT}{T:TypeId}(i j p q b c:Nat)(hc:dk ops l lT i j p q=true)
 (ho:ops[i]? =some L/\ops[j]? =some O/\ops[p]? =some U/\ops[q]? =some V) (H:L.guard=none/\O.guard=none/\U.guard=none/\V.guard=none) (hS: ∀w',Ext w w'->S w') (hd:b≠c) (h1:b < a.tmps.size) (Z:c < a.tmps.size)
 (hA: ∀a w (K:Act->aL->Prop),K (a.put (some b) (Nc w.heap.size)) (w.alloc (.cells #[z0,z1,z2] T))->L.wp P a w K Q)
 (hB: ∀a w (K:Act->aL->Prop),K (a.put (some c) (Nc w.heap.size)) (w.alloc (.cells #[z0,z1,z2] T))->O.wp P a w K Q)
 (hC: ∀C w g (K:Act->aL->Prop),C.eval (.tmp b)=Nc g->(∀t,t≠b->t≠c->C.eval (.tmp t)=a.eval (.tmp t))->w.heap[g]? =some (.cells #[z0,z1,z2] T (0,0))->K C (set3 w g x0 x1 x2)->U.wp P C w K Q)
 (hD: ∀C w g (K:Act->aL->Prop),C.eval (.tmp c)=Nc g->(∀t,t≠b->t≠c->C.eval (.tmp t)=a.eval (.tmp t))->w.heap[g]? =some (.cells #[z0,z1,z2] T (0,0))->K C (set3 w g y0 y1 y2)->V.wp P C w K Q)
 (fin: ∀m n w',Ext w w'->w.heap.size<=m->w.heap.size<=n->m≠n->w'.heap[m]? =some (.cells #[x0,x1,x2] T (0,0))->w'.heap[n]? =some (.cells #[y0,y1,y2] T (0,0))->iR P .any ops Q S f lT ((a.put (some b) (Nc m)).put (some c) (Nc n)) w'):iR P .any ops Q S (f+1+1+1+1) l a w:=by
 simp only[dk,aW,beq_iff_eq] at hc;obtain⟨⟨⟨⟨⟨⟨c1,c2⟩,c3⟩,c4⟩,c5⟩,c6⟩,c7⟩:=hc;obtain⟨oa,ob,oc,od⟩:=ho;obtain⟨ga,Y,gc,gd⟩:=H;have E1: ∀g,(a.put (some b) (Nc g)).eval (.tmp b)=Nc g:=fun g=> by rw[Ord.eval_put,if_pos rfl,if_pos h1]
 have E2: ∀g,(a.put (some c) (Nc g)).eval (.tmp c)=Nc g:=fun g=> by rw[Ord.eval_put,if_pos rfl,if_pos Z]
 have ql: ∀g r,((a.put (some b) (Nc g)).put (some c) (Nc r)).eval (.tmp b)=Nc g/\((a.put (some b) (Nc g)).put (some c) (Nc r)).eval (.tmp c)=Nc r:=fun g r=>⟨by rw[Ord.eval_put,if_neg (Ne.symm hd),E1],by rw[Ord.eval_put,if_pos rfl,if_pos (by rw[Ord.put_size];exact Z)]⟩
 have F1: ∀g t,t≠b->t≠c->(a.put (some b) (Nc g)).eval (.tmp t)=a.eval (.tmp t):=fun g t u v=> by rw[Ord.eval_put,if_neg (Ne.symm u)]
 have F2: ∀g t,t≠b->t≠c->(a.put (some c) (Nc g)).eval (.tmp t)=a.eval (.tmp t):=fun g t u v=> by rw[Ord.eval_put,if_neg (Ne.symm v)]
 have E: ∀g r t,t≠b->t≠c->((a.put (some b) (Nc g)).put (some c) (Nc r)).eval (.tmp t)=a.eval (.tmp t):=fun g r t u v=> by rw[Ord.eval_put,if_neg (Ne.symm v),F1 g t u v]
 have cm: ∀g r,(a.put (some c) (Nc r)).put (some b) (Nc g)=(a.put (some b) (Nc g)).put (some c) (Nc r):=fun g r=> Act.put_comm a _ _ (fun d h k=> hd ((bY k).trans (bY h).symm))
 have st: ∀{e:aL} {g:Nat} (x y z:aT),Ext w e->w.heap.size<=g->Ext w (set3 e g x y z):=fun x y z X H=> X.set3 H x y z
 have fB: ∀m n e,Ext w e->w.heap.size<=m->w.heap.size<=n->m≠n->e.heap[m]? =some (.cells #[z0,z1,z2] T (0,0))->e.heap[n]? =some (.cells #[z0,z1,z2] T (0,0))->iR P .any ops Q S (f+1+1) ((l.setIfInBounds i true).setIfInBounds j true) ((a.put (some b) (Nc m)).put (some c) (Nc n)) e:=fun m n e X F N A b1 b2=>
  O0 p c4 oc gc fun K hK=> hC _ _ m _ (ql _ _).1 (E _ _) b1 (hK.out _ _ (hS _ (st _ _ _ X F)) fun _=>
   O0 q c5 od gd fun K hK=> hD _ _ n _ (ql _ _).2 (E _ _) ((Qu A).trans b2) (hK.out _ _ (hS _ (st _ _ _ (st _ _ _ X F) N)) fun _=> by
    rw[c7];exact fin m n _ (st _ _ _ (st _ _ _ X F) N) F N A ((Qu (Ne.symm A)).trans (gD b1)) (gD ((Qu A).trans b2))))
 have D: ∀e:aL,Ext w e->Ext e (e.alloc (.cells #[z0,z1,z2] T))/\(e.alloc (.cells #[z0,z1,z2] T)).heap[e.heap.size]? =some (.cells #[z0,z1,z2] T (0,0)):=fun e _=>⟨(xr _).alloc _,heap_alloc_new _ _⟩
 obtain⟨s,J⟩:=D w (xr w);have ll:=O1 J;have m1:=s.trans (D _ s).1;refine ZF c1 oa ob ga Y (fun K hK=> hA _ _ _ (hK.out _ _ (hS _ s) fun _=> ?_)) (fun K hK=> hB _ _ _ (hK.out _ _ (hS _ s) fun _=> ?_))
 · refine O0 j c2 ob Y fun K hK=> hB _ _ _ (hK.out _ _ (hS _ m1) fun _=> ?_)
   exact fB _ _ _ m1 (aN _) s.size (by omega) ((D _ s).1.blk J) (D _ s).2
 · refine O0 i c3 oa ga fun K hK=> hA _ _ _ (hK.out _ _ (hS _ m1) fun _=> ?_)
   rw[cm,c6];exact fB _ _ _ m1 s.size (aN _) (by omega) (D _ s).2 ((D _ s).1.blk J)
