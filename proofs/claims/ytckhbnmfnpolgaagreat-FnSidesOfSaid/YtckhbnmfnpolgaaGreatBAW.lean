/-
  Lemmas towards the law, 23: MHd, StepT, MInf, Ord3, Norm.
-/
import Derived.Test.YtckhbnmfnpolgaaGreatBAD
import Derived.Test.YtckhbnmfnpolgaaGreatBAV
open Prod.mk renaming injEq->cK
open Bool renaming and_eq_true->aW
open Go renaming World->aK,Value->aS,bodyPost_ret->aO,results->aQ
open Option.some renaming injEq->bW
open Nat renaming lt_of_lt_of_le->aX
open Go.RowKit.Below renaming heap_setCell->aL
open Go.Proofs.Tryz
set_option linter.unusedVariables false
set_option maxHeartbeats 4000000
set_option maxRecDepth 100000
namespace Go.Proofs.YtckhbnmfnpolgaaGreat
open Go.RowKit
open M (Hd HR Cv)
theorem Yc{k:Int}(n:Int)(a:List Tr)(h: ¬(k=5\/k=9\/k=12\/k=15\/k=16)):p4 (.mk k n a)=([],false):=by
 have b:rdx k a=0:=Sl (by omega) (by omega) (by omega) (by omega) (by omega);rw[p4,if_neg (by rw[b];decide),if_neg (by omega),if_neg (by omega),if_neg (by omega)]
def Oz(t:M.Tm):Prop:=(∀p,p4 (enc t)=(p,true)-> ∃u,conA (enc t) p=enc u/\Hd t u)/\((p4 (enc t)).2=false-> ∀u,¬Hd t u)
theorem Oz.leaf{t:M.Tm}(h:p4 (enc t)=([],false))(no: ∀u,¬Hd t u):Oz t:=
 ⟨fun p e=> by rw[h] at e;simp at e,fun _=> no⟩
theorem Oz.root{t u:M.Tm}(h:p4 (enc t)=([],true))(e:ctrT (enc t)=enc u)(k:Hd t u):Oz t:=
 ⟨fun p q=> by
  rw[h] at q;simp only[cK,and_true] at q;subst q;exact⟨u,by rw[jt,e],k⟩,fun q=> by rw[h] at q;cases q⟩
theorem Lu: ∀t:M.Tm,Oz t:=by
 intro t
 induction t with
 |var n=> exact .leaf (Yc _ _ (by omega)) fun u h=> by cases h
 |sort n=> exact .leaf (Yc _ _ (by omega)) fun u h=> by cases h
 |pi A B=> exact .leaf (Yc _ _ (by omega)) fun u h=> by cases h
 |lam A B=> exact .leaf (Yc _ _ (by omega)) fun u h=> by cases h
 |nat=> exact .leaf (Yc _ _ (by omega)) fun u h=> by cases h
 |zero=> exact .leaf (Yc _ _ (by omega)) fun u h=> by cases h
 |succ a=> exact .leaf (Yc _ _ (by omega)) fun u h=> by cases h
 |id T a b=> exact .leaf (Yc _ _ (by omega)) fun u h=> by cases h
 |refl a=> exact .leaf (Yc _ _ (by omega)) fun u h=> by cases h
 |sg A B=> exact .leaf (Yc _ _ (by omega)) fun u h=> by cases h
 |pair T a b=> exact .leaf (Yc _ _ (by omega)) fun u h=> by cases h
 |app f a d v=>
  by_cases hl: ∃A b,f= .lam A b
  · obtain⟨A,b,rfl⟩:=hl
    exact .root (by simp[enc,p4,rdx,kd,Tr.kind]) (xo b a) (.beta A b a)
  · have hk:(enc f).kind≠4:=by intro h;cases f <;> simp[enc,Tr.kind] at h;exact hl ⟨_,_,rfl⟩
    have g: ¬rdx 5 [enc f,enc a]≠0:=fun h=> by
     rcases Uk h with h|h|h|h|h|h <;> first|exact hk h.2|omega
    have e:p4 (enc (.app f a))=(((0:Nat):Int)::(p4 (enc f)).1,(p4 (enc f)).2):=by
     show p4 (.mk 5 0 [enc f,enc a])=_
     rw[p4,if_neg g,if_pos (.inl rfl),a8]
     rfl
    refine⟨fun p h=> ?_,fun h u l=> ?_⟩
    · rw[e] at h
      simp only[cK] at h;obtain⟨rfl,c⟩:=h;obtain⟨u,r,o⟩:=d.1 _ (by rw[<-c]);refine⟨.app u a, ?_,.app a o⟩
      show conA (.mk 5 0 [enc f,enc a]) _=_
      rw[pu (k:=5) (n:=0) (ks:= [enc f,enc a]) (i:=0) (p:=(p4 (enc f)).1) (by simp) (Bf (enc f) _ (by rw[<-c]))]
      show Tr.mk 5 0 [conA (enc f) _,enc a]=_
      rw[r]
      rfl
    · rw[e] at h
      cases l with
      |beta=> exact hl ⟨_,_,rfl⟩
      |app _ j=> exact d.2 h _ j
 |elim p z s a d v E D=>
  by_cases w:a= .zero
  · subst w
    exact .root (by simp[enc,p4,rdx,kd,Tr.kind]) rfl (.ez p z s)
  by_cases hl: ∃b,a= .succ b
  · obtain⟨b,rfl⟩:=hl
    exact .root (by simp[enc,p4,rdx,kd,Tr.kind]) rfl (.es p z s b)
  · have hk:(enc a).kind≠7:=by intro h;cases a <;> simp[enc,Tr.kind] at h;exact w rfl
    have C:(enc a).kind≠8:=by intro h;cases a <;> simp[enc,Tr.kind] at h;exact hl ⟨_,rfl⟩
    have g: ¬rdx 9 [enc p,enc z,enc s,enc a]≠0:=fun h=> by
     rcases Uk h with h|h|h|h|h|h <;> first|exact hk h.2|exact C h.2|omega
    have e:p4 (enc (.elim p z s a))=(((3:Nat):Int)::(p4 (enc a)).1,(p4 (enc a)).2):=by
     show p4 (.mk 9 0 [enc p,enc z,enc s,enc a])=_
     rw[p4,if_neg g,if_neg (by omega),if_pos rfl,a8,a8,a8,a8]
     rfl
    refine⟨fun q h=> ?_,fun h u l=> ?_⟩
    · rw[e] at h
      simp only[cK] at h;obtain⟨rfl,c⟩:=h;obtain⟨u,r,o⟩:=D.1 _ (by rw[<-c]);refine⟨.elim p z s u, ?_,.elim p z s o⟩
      show conA (.mk 9 0 [enc p,enc z,enc s,enc a]) _=_
      rw[pu (k:=9) (n:=0) (ks:= [enc p,enc z,enc s,enc a]) (i:=3) (p:=(p4 (enc a)).1) (by simp) (Bf (enc a) _ (by rw[<-c]))]
      show Tr.mk 9 0 [enc p,enc z,enc s,conA (enc a) _]=_
      rw[r]
      rfl
    · rw[e] at h
      cases l with
      |ez=> exact w rfl
      |es=> exact hl ⟨_,rfl⟩
      |elim _ _ _ j=> exact D.2 h _ j
 |move p m a d v E=>
  by_cases hl: ∃b,m= .refl b
  · obtain⟨b,rfl⟩:=hl
    exact .root (by simp[enc,p4,rdx,kd,Tr.kind]) rfl (.mr p b a)
  · have hk:(enc m).kind≠11:=by intro h;cases m <;> simp[enc,Tr.kind] at h;exact hl ⟨_,rfl⟩
    have g: ¬rdx 12 [enc p,enc m,enc a]≠0:=fun h=> by
     rcases Uk h with h|h|h|h|h|h <;> first|exact hk h.2|omega
    have e:p4 (enc (.move p m a))=(((1:Nat):Int)::(p4 (enc m)).1,(p4 (enc m)).2):=by
     show p4 (.mk 12 0 [enc p,enc m,enc a])=_
     rw[p4,if_neg g,if_neg (by omega),if_neg (by omega),if_pos rfl,a8,a8]
     rfl
    refine⟨fun q h=> ?_,fun h u l=> ?_⟩
    · rw[e] at h
      simp only[cK] at h;obtain⟨rfl,c⟩:=h;obtain⟨u,r,o⟩:=v.1 _ (by rw[<-c]);refine⟨.move p u a, ?_,.move p a o⟩
      show conA (.mk 12 0 [enc p,enc m,enc a]) _=_
      rw[pu (k:=12) (n:=0) (ks:= [enc p,enc m,enc a]) (i:=1) (p:=(p4 (enc m)).1) (by simp) (Bf (enc m) _ (by rw[<-c]))]
      show Tr.mk 12 0 [enc p,conA (enc m) _,enc a]=_
      rw[r]
      rfl
    · rw[e] at h
      cases l with
      |mr=> exact hl ⟨_,rfl⟩
      |move _ _ j=> exact v.2 h _ j
 |fst a d=>
  by_cases hl: ∃T x y,a= .pair T x y
  · obtain⟨T,x,y,rfl⟩:=hl
    exact .root (by simp[enc,p4,rdx,kd,Tr.kind]) rfl (.fp T x y)
  · have hk:(enc a).kind≠14:=by intro h;cases a <;> simp[enc,Tr.kind] at h;exact hl ⟨_,_,_,rfl⟩
    have g: ¬rdx 15 [enc a]≠0:=fun h=> by
     rcases Uk h with h|h|h|h|h|h <;> first|exact hk h.2|omega
    have e:p4 (enc (.fst a))=(((0:Nat):Int)::(p4 (enc a)).1,(p4 (enc a)).2):=by
     show p4 (.mk 15 0 [enc a])=_
     rw[p4,if_neg g,if_pos (.inr (.inl rfl)),a8]
     rfl
    refine⟨fun q h=> ?_,fun h u l=> ?_⟩
    · rw[e] at h
      simp only[cK] at h;obtain⟨rfl,c⟩:=h;obtain⟨u,r,o⟩:=d.1 _ (by rw[<-c]);refine⟨.fst u, ?_,.fst o⟩
      show conA (.mk 15 0 [enc a]) _=_
      rw[pu (k:=15) (n:=0) (ks:= [enc a]) (i:=0) (p:=(p4 (enc a)).1) (by simp) (Bf (enc a) _ (by rw[<-c]))]
      show Tr.mk 15 0 [conA (enc a) _]=_
      rw[r]
      rfl
    · rw[e] at h
      cases l with
      |fp=> exact hl ⟨_,_,_,rfl⟩
      |fst j=> exact d.2 h _ j
 |snd a d=>
  by_cases hl: ∃T x y,a= .pair T x y
  · obtain⟨T,x,y,rfl⟩:=hl
    exact .root (by simp[enc,p4,rdx,kd,Tr.kind]) rfl (.sp T x y)
  · have hk:(enc a).kind≠14:=by intro h;cases a <;> simp[enc,Tr.kind] at h;exact hl ⟨_,_,_,rfl⟩
    have g: ¬rdx 16 [enc a]≠0:=fun h=> by
     rcases Uk h with h|h|h|h|h|h <;> first|exact hk h.2|omega
    have e:p4 (enc (.snd a))=(((0:Nat):Int)::(p4 (enc a)).1,(p4 (enc a)).2):=by
     show p4 (.mk 16 0 [enc a])=_
     rw[p4,if_neg g,if_pos (.inr (.inr rfl)),a8]
     rfl
    refine⟨fun q h=> ?_,fun h u l=> ?_⟩
    · rw[e] at h
      simp only[cK] at h;obtain⟨rfl,c⟩:=h;obtain⟨u,r,o⟩:=d.1 _ (by rw[<-c]);refine⟨.snd u, ?_,.snd o⟩
      show conA (.mk 16 0 [enc a]) _=_
      rw[pu (k:=16) (n:=0) (ks:= [enc a]) (i:=0) (p:=(p4 (enc a)).1) (by simp) (Bf (enc a) _ (by rw[<-c]))]
      show Tr.mk 16 0 [conA (enc a) _]=_
      rw[r]
      rfl
    · rw[e] at h
      cases l with
      |sp=> exact hl ⟨_,_,_,rfl⟩
      |snd j=> exact d.2 h _ j
theorem jC: ∀(f:Nat) (A:M.Tm) (x:Tr),p9 f (enc A)=(x,0)-> ∃B,x=enc B/\HR A B/\ ∀C,¬Hd B C
 |0,A,x,h=> by
  cases e:hdQ (enc A) with
  |none=>
   rw[ew e] at h;simp only[cK,and_true] at h;exact⟨A,h.symm,.refl A,(Lu A).2 (Bs e)⟩
  |some p=> rw[pD e] at h;cases h
 |f+1,A,x,h=> by
  cases e:hdQ (enc A) with
  |none=>
   rw[ew e] at h;simp only[cK,and_true] at h;exact⟨A,h.symm,.refl A,(Lu A).2 (Bs e)⟩
  |some p=>
   by_cases hc:j0 m0 (conA (enc A) p)=true
   · rw[Yp e hc] at h
     obtain⟨u,b,d⟩:=(Lu A).1 p (Uy e);rw[b] at h;obtain⟨B,g,a,c⟩:=jC f u x h;exact⟨B,g,.step d a,c⟩
   · rw[Vo e (Bool.eq_false_iff.2 hc)] at h
     cases h
theorem Vg{A:M.Tm}{x:Tr}{f:Int}(h:d7 (enc A) f=(x,0)): ∃B,x=enc B/\HR A B/\(∀C,¬Hd B C)/\j0 m0 (enc B)=true:=by
 have hv:=(Qw h).2.2.2;unfold d7 at h
 split at h
 · obtain⟨B,rfl,a,b⟩:=jC _ A x h
   exact⟨B,rfl,a,b,hv⟩
 · cases h
theorem Mo{A B c:M.Tm}(h:HR A B)(hs: ∀C,¬Hd B C)(k:HR A c)(hc:M.hk c≠0):B=c:=by
 have:=h.after k hc;cases this with
 |refl=> rfl
 |step a _=> exact absurd a (hs _)
theorem xG{A B:M.Tm}(h:Sc (enc A) (enc B) 200=1):Cv A B:=by
 unfold Sc at h
 split at h
 · rename_i hv
   simp only[aW] at hv
   split at h
   · rename_i e
     rw[be e];exact Cv.rfl' _
   · split at h
     · rename_i a
       split at h
       · rename_i c
         obtain⟨g,-,-⟩:=SC (200:Int).toNat (enc A) (T4 (200:Int).toNat (enc A)).1 hv.1 (by rw[<-a.1]);obtain⟨d,-,-⟩:=SC (200:Int).toNat (enc B) (T4 (200:Int).toNat (enc B)).1 hv.2.1 (by rw[<-a.2]);obtain⟨m,i,j⟩:=AB g rfl;obtain⟨l,k,b⟩:=AB d rfl;have:m=l:=be (by rw[<-i,<-k,c]);subst this;exact⟨m,j,b⟩
       · simp at h
     · simp at h
 · simp at h
theorem tC{A B:M.Tm}(h:Sc (enc A) (enc B) 200=2): ¬Cv A B:=by
 intro hc;unfold Sc at h
 split at h
 · rename_i hv
   simp only[aW] at hv
   split at h
   · simp at h
   · split at h
     · rename_i a
       split at h
       · simp at h
       · rename_i j
         obtain⟨i,b,-⟩:=SC (200:Int).toNat (enc A) (T4 (200:Int).toNat (enc A)).1 hv.1 (by rw[<-a.1]);obtain⟨l,d,-⟩:=SC (200:Int).toNat (enc B) (T4 (200:Int).toNat (enc B)).1 hv.2.1 (by rw[<-a.2]);obtain⟨C,g,k⟩:=hc;obtain⟨p,m,c⟩:=i.meet (WB g);obtain⟨o,n,e⟩:=l.meet (WB k);rw[m.normal b] at c;rw[n.normal d] at e;exact j (m7.unique c e b d)
     · simp at h
 · simp at h
theorem EC{A B:M.Tm}(h:V3 (enc A) (enc B)=0):Cv A B:=xG (Ol h)
theorem Ri{A B:M.Tm}(h:Cv A B):V3 (enc A) (enc B)=0\/V3 (enc A) (enc B)=2:=by
 unfold V3
 split
 · exact .inl rfl
 · split
   · rename_i a
     exact absurd h (tC a)
   · exact .inr rfl
theorem Rq{B:M.Tm}(h:(enc B).kind=2): ∃n,B= .sort n:=by
 cases B <;> simp[enc,Tr.kind] at h;exact⟨_,rfl⟩
theorem eA{B:M.Tm}(h:(enc B).kind=3): ∃C R,B= .pi C R:=by
 cases B <;> simp[enc,Tr.kind] at h;exact⟨_,_,rfl⟩
theorem Oj{B:M.Tm}(h:(enc B).kind=10): ∃T a b,B= .id T a b:=by
 cases B <;> simp[enc,Tr.kind] at h;exact⟨_,_,_,rfl⟩
theorem Wu{B:M.Tm}(h:(enc B).kind=13): ∃C R,B= .sg C R:=by
 cases B <;> simp[enc,Tr.kind] at h;exact⟨_,_,rfl⟩
end Go.Proofs.YtckhbnmfnpolgaaGreat
namespace Go.Proofs.YtckhbnmfnpolgaaGreat
open Go.RowKit
theorem Lw{w:aK}{base:Nat}{v:aS}{p:List Int}(h:w.ownsRow base 3 1 v p.length (p.map (Value.int .i64))): ∃B c,v= .slice B p.length c/\Qi w B p.length c p:=by
 obtain⟨B,c,rfl,a,b,d⟩:=Mr h;exact⟨B,c,rfl,rfl,a,b,d⟩
end Go.Proofs.YtckhbnmfnpolgaaGreat
namespace Go.Proofs.YtckhbnmfnpolgaaGreat
open Go.RowKit
open M (Hd HR Cv Ty M2 zc y6 W4)
def ctxE(G:List M.Tm):List Tr:=(G.map enc).reverse
theorem y26(G:List M.Tm):(ctxE G).length=G.length:=by simp[ctxE]
theorem md(A:M.Tm)(G:List M.Tm):ctxE (A::G)=ctxE G++ [enc A]:=by simp[ctxE]
theorem UD{G:List M.Tm}{n:Nat}(h:n < G.length):kd (ctxE G) (G.length - 1 - n)=enc G[n]:=by
 unfold kd ctxE;rw[List.getD_eq_getElem?_getD,List.getElem?_reverse (by simp;omega)];simp only[List.length_map,List.getElem?_map];rw[show G.length - 1 -(G.length - 1 - n)=n by omega,List.getElem?_eq_getElem h]
 rfl
theorem Up(p:M.Tm):Wb (enc p)=enc (M.stepTy p):=by
 have a:=km 1 p 0;have b:=km 2 p 0;rw[Lr] at a b;unfold Wb M.stepTy;simp only[enc,i5,Lf];rw[show shfT 1 (enc p) 0=enc (p.ren fun i=> i+1) from a,show shfT 2 (enc p) 0=enc (p.ren fun i=> i+2) from b]
 rfl
theorem xz{G:List M.Tm}{n:Nat}(h:n < G.length):Xg (ctxE G) (n:Int)=mkV (enc (G[n].ren fun i=> i+(n+1))):=by
 unfold Xg;rw[if_neg (by rw[y26];omega),y26,show(n:Int).toNat=n by omega,UD h];have:=km (n+1) G[n] 0;rw[Lr] at this;rw[<-this]
 rfl
theorem Kr{G:List M.Tm}{n:Nat}(h:n < G.length):M.lk G n=some (G[n].ren fun i=> i+(n+1)):=by
 unfold M.lk;rw[List.getElem?_eq_getElem h]
 rfl
section
variable (f : Nat) (G : List Tr)
theorem Tw{k:Int}{a:List Tr}{i:Nat}(h:E4 k i=0):ga (N0 f) G k a i=N0 f G (kd a i):=by unfold ga;rw[if_pos h]
theorem tm{k:Int}{a:List Tr}(h:E4 k 1=1):ga (N0 f) G k a 1=if 20<=G.length then some (E2,2) else N0 f (G++ [kd a 0]) (kd a 1):=by unfold ga;rw[if_neg (by rw[h];decide)]
end
theorem AJ{f:Nat}{G:List Tr}{k:Int}{a:List Tr}{i:Nat}{r:Tr×Int}(h:E4 k i=0)(e:ga (N0 f) G k a i=some r):N0 f G (kd a i)=some r:=by rwa [Tw f G h] at e
theorem Yq{f:Nat}{G:List Tr}{k:Int}{a:List Tr}{s:Tr}(h:E4 k 1=1)(e:ga (N0 f) G k a 1=some (s,0)):G.length < 20/\N0 f (G++ [kd a 0]) (kd a 1)=some (s,0):=by
 rw[tm f G h] at e
 split at e
 · simp at e
 · exact⟨by omega,e⟩
theorem Z0{k n:Int}{a:List Tr}{x:Tr}(h:j0 m0 (.mk k n a)=true)(hm:x∈a):j0 m0 x=true:=UA h hm
structure X6 (G:List M.Tm):Prop where
 wf:zc G
 vd: ∀A∈G,j0 m0 (enc A)=true
theorem X6.nil:X6 []:=⟨zc.nil,fun _ h=> by simp at h⟩
theorem X6.cons{G:List M.Tm}{A:M.Tm}(h:X6 G)(b:y6 G A)(v:j0 m0 (enc A)=true):X6 (A::G):=
 ⟨h.wf.cons b,fun B a=> by
  rcases List.mem_cons.1 a with rfl|a
  · exact v
  · exact h.vd B a⟩
def Zu(f:Nat):Prop:= ∀(G:List M.Tm) (t:M.Tm) (x:Tr),X6 G->j0 m0 (enc t)=true->N0 f (ctxE G) (enc t)=some (x,0)-> ∃A,x=enc A/\Ty G t A/\M2 G t/\j0 m0 (enc A)=true
theorem Ld{f:Nat}(ih:Zu f){G:List M.Tm}{A:M.Tm}{s:Tr}(hG:X6 G)(hv:j0 m0 (enc A)=true)(h:V0 (N0 f (ctxE G) (enc A)) 2=some (s,0)): ∃S i,s=enc (.sort i)/\Ty G A S/\HR S (.sort i)/\M2 G A/\y6 G A/\i<=3:=by
 obtain⟨u,c,d,e⟩:=Ng h;obtain⟨S,rfl,b,a,g⟩:=ih G A u hG hv c;obtain⟨B,rfl,r,-,-⟩:=Vg d;obtain⟨i,rfl⟩:=Rq e;have hi:=M.lev_le (M2.type b hG.wf a) r;exact⟨S,i,rfl,b,r,a,⟨a,i,hi,S,b,r⟩,hi⟩
theorem vi{f:Nat}(ih:Zu f){G:List M.Tm}{t:M.Tm}{s:Tr}(hG:X6 G)(hv:j0 m0 (enc t)=true)(h:V0 (N0 f (ctxE G) (enc t)) 3=some (s,0)): ∃F C R,s=enc (.pi C R)/\Ty G t F/\HR F (.pi C R)/\M2 G t/\j0 m0 (enc C)=true/\j0 m0 (enc R)=true:=by
 obtain⟨u,b,e,g⟩:=Ng h;obtain⟨F,rfl,d,c,i⟩:=ih G t u hG hv b;obtain⟨B,rfl,r,-,a⟩:=Vg e;obtain⟨C,R,rfl⟩:=eA g;exact⟨F,C,R,rfl,d,r,c,Z0 a (by simp),Z0 a (by simp)⟩
theorem gk{f:Nat}(ih:Zu f){G:List M.Tm}{t:M.Tm}{s:Tr}(hG:X6 G)(hv:j0 m0 (enc t)=true)(h:V0 (N0 f (ctxE G) (enc t)) 13=some (s,0)): ∃F C R,s=enc (.sg C R)/\Ty G t F/\HR F (.sg C R)/\M2 G t/\j0 m0 (enc C)=true/\j0 m0 (enc R)=true:=by
 obtain⟨u,b,e,g⟩:=Ng h;obtain⟨F,rfl,d,c,i⟩:=ih G t u hG hv b;obtain⟨B,rfl,r,-,a⟩:=Vg e;obtain⟨C,R,rfl⟩:=Wu g;exact⟨F,C,R,rfl,d,r,c,Z0 a (by simp),Z0 a (by simp)⟩
theorem ym{f:Nat}(ih:Zu f){G:List M.Tm}{t:M.Tm}{s:Tr}(hG:X6 G)(hv:j0 m0 (enc t)=true)(h:V0 (N0 f (ctxE G) (enc t)) 10=some (s,0)): ∃F T a b,s=enc (.id T a b)/\Ty G t F/\HR F (.id T a b)/\M2 G t/\j0 m0 (enc T)=true/\j0 m0 (enc a)=true/\j0 m0 (enc b)=true:=by
 obtain⟨u,d,i,j⟩:=Ng h;obtain⟨F,rfl,g,e,k⟩:=ih G t u hG hv d;obtain⟨B,rfl,r,-,c⟩:=Vg i;obtain⟨T,a,b,rfl⟩:=Oj j;exact⟨F,T,a,b,rfl,g,r,e,Z0 c (by simp),Z0 c (by simp),Z0 c (by simp)⟩
theorem Xk{f:Nat}(ih:Zu f){G:List M.Tm}{t W:M.Tm}{y:An}{u:Tr}(hG:X6 G)(hv:j0 m0 (enc t)=true)(h:P3 (N0 f (ctxE G) (enc t)) (enc W) y=some (u,0)): ∃X,Ty G t X/\Cv X W/\M2 G t/\y=some (u,0):=by
 obtain⟨s,a,c,d⟩:=Sg h;obtain⟨X,rfl,b,e,-⟩:=ih G t s hG hv a;exact⟨X,b,EC c,e,d⟩
theorem eB{f:Nat}(ih:Zu f){G:List M.Tm}{p T:M.Tm}{y:An}{u:Tr}(hG:X6 G)(hv:j0 m0 (enc p)=true)(h:da (N0 f (ctxE G) (enc p)) (enc T) y=some (u,0)): ∃F C D k,Ty G p F/\HR F (.pi C D)/\Cv C T/\HR D (.sort k)/\M2 G p/\y=some (u,0):=by
 obtain⟨o,s,c,b,a,j,e,d,l,g⟩:=Ov h;obtain⟨F,C,D,rfl,n,i,m,-,-⟩:=vi ih hG hv (s:=s) (by
  unfold V0 thn;rw[b];simp only[if_true];unfold d4;rw[if_neg (by rw[a];simp),if_neg (by rw[a];simpa using j),a])
 obtain⟨B,rfl,r,-,-⟩:=Vg (show d7 (enc D) 200=(c,0) from d);obtain⟨k,rfl⟩:=Rq l;exact⟨F,C,D,k,n,i,EC e,r,m,g⟩
theorem snd: ∀f,Zu f
 |0=> fun G t x hG hv h=> by cases h
 |f+1=> fun G t x hG hv h=> by
  have ih:=snd f;cases t with
  |var n=>
   have d:some (Xg (ctxE G) (n:Int))=some (x,0):=h;by_cases hn:n < G.length
   · rw[xz hn] at d
     obtain⟨v,rfl⟩:=Tf d;exact⟨_,rfl,.var (Kr hn),trivial,v⟩
   · unfold Xg at d
     rw[if_pos (by rw[y26];omega)] at d;simp at d
  |sort n=>
   have d:some (if(n:Int)=3 then(E2,(1:Int)) else(m6 ((n:Int)+1),0))=some (x,0):=by
    rw[<-h];simp[enc,N0,Vb]
   split at d
   · simp at d
   · rename_i hn
     simp only[bW,cK,and_true] at d;have hle:(n:Int)<=3:=(Z4 (Z3 hv).1).2.2.1;refine⟨.sort (n+1),by rw[<-d];rfl,.sort,by show n < 3;omega, ?_⟩;have: ∀m:Fin 4,j0 m0 (enc (.sort m.val))=true:=by decide+kernel
     exact this ⟨n+1,by omega⟩
  |nat=>
   have d:some (m6 0,(0:Int))=some (x,0):=h;simp only[bW,cK,and_true] at d;exact⟨.sort 0,by rw[<-d];rfl,.nat,trivial,by decide+kernel⟩
  |zero=>
   have d:some (i5,(0:Int))=some (x,0):=h;simp only[bW,cK,and_true] at d;exact⟨.nat,by rw[<-d];rfl,.zero,trivial,by decide+kernel⟩
  |succ a=>
   have d:P3 (N0 f (ctxE G) (enc a)) (enc .nat) (some (i5,0))=some (x,0):=h;obtain⟨X,Q,cX,V,l⟩:=Xk ih hG (Z0 hv (by simp)) d;simp only[bW,cK,and_true] at l;exact⟨.nat,by rw[<-l];rfl,.succ Q cX,V,by decide+kernel⟩
  |pi A B=>
   have d:thn (V0 (N0 f (ctxE G) (enc A)) 2) (fun a=> thn (V0 (ga (N0 f) (ctxE G) 3 [enc A,enc B] 1) 2) fun b=> some (m6 (max a.num b.num),0))=some (x,0):=h;obtain⟨s,l,o⟩:=v9 d;obtain⟨S,i,rfl,L,rA,O,bA,hi⟩:=Ld ih hG (Z0 hv (by simp)) l;obtain⟨s2,J,I⟩:=v9 o;obtain⟨u,N,K,h8⟩:=Ng J;obtain⟨h9,H⟩:=Yq rfl N;have C5:=hG.cons bA (Z0 hv (by simp));rw[show ctxE G++ [kd [enc A,enc B] 0]=ctxE (A::G) from(md A G).symm] at H;obtain⟨S',j,rfl,tB,rB,lB,bB,hj⟩:=Ld ih C5 (Z0 hv (by simp)) (A:=B) (s:=s2) (by
    unfold V0 thn;rw[show N0 f (ctxE (A::G)) (enc B)=some (u,0) from H];simp only[if_true];unfold d4;rw[if_neg (by rw[K];simp),if_neg (by rw[K];simpa using h8),K])
   simp only[bW,cK,and_true] at I;refine⟨.sort (max i j),by rw[<-I];simp only[enc,Tr.num,m6];congr 1;omega,.pi L rA tB rB,⟨O,lB⟩, ?_⟩;have: ∀m:Fin 4,j0 m0 (enc (.sort m.val))=true:=by decide+kernel
   exact this ⟨max i j,by omega⟩
  |sg A B=>
   have d:thn (V0 (N0 f (ctxE G) (enc A)) 2) (fun a=> thn (V0 (ga (N0 f) (ctxE G) 13 [enc A,enc B] 1) 2) fun b=> some (m6 (max a.num b.num),0))=some (x,0):=h;obtain⟨s,l,o⟩:=v9 d;obtain⟨S,i,rfl,L,rA,O,bA,hi⟩:=Ld ih hG (Z0 hv (by simp)) l;obtain⟨s2,J,I⟩:=v9 o;obtain⟨u,N,K,h8⟩:=Ng J;obtain⟨h9,H⟩:=Yq rfl N;have C5:=hG.cons bA (Z0 hv (by simp));rw[show ctxE G++ [kd [enc A,enc B] 0]=ctxE (A::G) from(md A G).symm] at H;obtain⟨S',j,rfl,tB,rB,lB,bB,hj⟩:=Ld ih C5 (Z0 hv (by simp)) (A:=B) (s:=s2) (by
    unfold V0 thn;rw[show N0 f (ctxE (A::G)) (enc B)=some (u,0) from H];simp only[if_true];unfold d4;rw[if_neg (by rw[K];simp),if_neg (by rw[K];simpa using h8),K])
   simp only[bW,cK,and_true] at I;refine⟨.sort (max i j),by rw[<-I];simp only[enc,Tr.num,m6];congr 1;omega,.sg L rA tB rB,⟨O,lB⟩, ?_⟩;have: ∀m:Fin 4,j0 m0 (enc (.sort m.val))=true:=by decide+kernel
   exact this ⟨max i j,by omega⟩
  |lam A t=>
   have d:thn (V0 (N0 f (ctxE G) (enc A)) 2) (fun _=> thn (ga (N0 f) (ctxE G) 4 [enc A,enc t] 1) fun b=> thn (some (mkV (.mk 3 0 [enc A,b]))) fun out=> thn (N0 f (ctxE G) out) fun _=> some (out,0))=some (x,0):=h;obtain⟨s,l,o⟩:=v9 d;obtain⟨S,i,rfl,L,rA,O,bA,hi⟩:=Ld ih hG (Z0 hv (by simp)) l;obtain⟨b,J,I⟩:=v9 o;obtain⟨N,K⟩:=Yq rfl J;have C5:=hG.cons bA (Z0 hv (by simp));rw[show ctxE G++ [kd [enc A,enc t] 0]=ctxE (A::G) from(md A G).symm] at K;obtain⟨B,rfl,tB,lB,vB⟩:=ih (A::G) t b C5 (Z0 hv (by simp)) K;obtain⟨h8,h9⟩:=Mt I;obtain⟨v,e⟩:=Uq h8;rw[e] at h9;obtain⟨s3,H,U⟩:=v9 h9;obtain⟨P,rfl,tP,lP,-⟩:=ih G (.pi A B) s3 hG v H;simp only[bW,cK,and_true] at U;refine⟨.pi A B,U.symm,.lam L rA tB,⟨O,lB,fun B' k' hB hk=> ?_⟩,v⟩;obtain rfl:=tB.det hB;cases tP with
   |pi k1 k2 k3 k4=>
    have:=M.lev_le (M2.type (.pi k1 k2 k3 k4) hG.wf lP) (.refl _);have e2:=hk.det ⟨_,k3,k4⟩;omega
  |app g a=>
   have d:thn (V0 (N0 f (ctxE G) (enc g)) 3) (fun s=> P3 (N0 f (ctxE G) (enc a)) (kd s.kids 0) (some (mkV (Q0 (enc a) (kd s.kids 1) 0 0))))=some (x,0):=h;obtain⟨s,l,o⟩:=v9 d;obtain⟨F,C,R,rfl,tF,rF,lF,vC,vR⟩:=vi ih hG (Z0 hv (by simp)) l;obtain⟨X,Q,cX,V,J⟩:=Xk ih hG (Z0 hv (by simp)) (W:=C) o;obtain⟨v,rfl⟩:=Tf J;have e:Q0 (enc a) (kd (enc (.pi C R)).kids 1) 0 0=enc (R.inst a):=xo R a;rw[e] at v⊢;exact⟨_,rfl,.app tF rF Q cX,⟨lF,V⟩,v⟩
  |elim p z s a=>
   have d:da (N0 f (ctxE G) (enc p)) (enc .nat) (thn (some (mkV (.mk 5 0 [enc p,.mk 7 0 []]))) fun w=> P3 (N0 f (ctxE G) (enc z)) w (thn (some (mkV (Wb (enc p)))) fun w2=> P3 (N0 f (ctxE G) (enc s)) w2 (P3 (N0 f (ctxE G) (enc a)) (enc .nat) (some (mkV (.mk 5 0 [enc p,enc a]))))))=some (x,0):=h;obtain⟨F,C,D,k,tF,rF,cC,rD,lF,l⟩:=eB ih hG (Z0 hv (by simp)) d;obtain⟨o,J⟩:=Mt l;obtain⟨v1,e1⟩:=Uq o;rw[e1] at J;obtain⟨Z,tZ,cZ,lZ,I⟩:=Xk ih hG (Z0 hv (by simp)) (W:= .app p .zero) J;obtain⟨N,K⟩:=Mt I;obtain⟨v2,e2⟩:=Uq N;rw[e2,Up] at K;obtain⟨S,tS,cS,lS,h8⟩:=Xk ih hG (Z0 hv (by simp)) K;obtain⟨X,Q,cX,V,h9⟩:=Xk ih hG (Z0 hv (by simp)) h8;obtain⟨v3,rfl⟩:=Tf h9;exact⟨.app p a,rfl,.elim tF rF cC rD tZ cZ tS cS Q cX,⟨lF,lZ,lS,V⟩,v3⟩
  |id T a b=>
   have d:thn (V0 (N0 f (ctxE G) (enc T)) 2) (fun s=> P3 (N0 f (ctxE G) (enc a)) (enc T) (P3 (N0 f (ctxE G) (enc b)) (enc T) (some (m6 s.num,0))))=some (x,0):=h;obtain⟨s,l,o⟩:=v9 d;obtain⟨S,i,rfl,L,rA,O,bA,hi⟩:=Ld ih hG (Z0 hv (by simp)) l;obtain⟨X,Q,cX,V,J⟩:=Xk ih hG (Z0 hv (by simp)) o;obtain⟨Y,tY,cY,lY,I⟩:=Xk ih hG (Z0 hv (by simp)) J;simp only[bW,cK,and_true] at I;refine⟨.sort i,by rw[<-I];rfl,.id L rA Q cX tY cY,⟨O,V,lY⟩, ?_⟩;have: ∀m:Fin 4,j0 m0 (enc (.sort m.val))=true:=by decide+kernel
   exact this ⟨i,by omega⟩
  |refl a=>
   have d:thn (N0 f (ctxE G) (enc a)) (fun s=> thn (V0 (N0 f (ctxE G) s) 2) fun _=> some (mkV (.mk 10 0 [s,enc a,enc a])))=some (x,0):=h;obtain⟨s,l,o⟩:=v9 d;obtain⟨A,rfl,L,O,vA⟩:=ih G a s hG (Z0 hv (by simp)) l;obtain⟨s2,J,I⟩:=v9 o;obtain⟨S,i,rfl,tS,rS,lS,bS,hi⟩:=Ld ih hG vA J;obtain⟨v,rfl⟩:=Tf I;refine⟨.id A a a,rfl,.refl L,⟨O,fun B' k' hB hk=> ?_⟩,v⟩;obtain rfl:=L.det hB;have:=hk.det ⟨S,tS,rS⟩;omega
  |move p e a=>
   have d:thn (V0 (N0 f (ctxE G) (enc e)) 10) (fun s=> da (N0 f (ctxE G) (enc p)) (kd s.kids 0) (thn (some (mkV (.mk 5 0 [enc p,kd s.kids 1]))) fun w=> P3 (N0 f (ctxE G) (enc a)) w (some (mkV (.mk 5 0 [enc p,kd s.kids 2])))))=some (x,0):=h;obtain⟨s,l,o⟩:=v9 d;obtain⟨E,T,b,c,rfl,tE,rE,lE,vT,vb,vc⟩:=ym ih hG (Z0 hv (by simp)) l;obtain⟨F,C,D,k,tF,rF,cC,rD,lF,J⟩:=eB ih hG (Z0 hv (by simp)) (T:=T) o;obtain⟨I,N⟩:=Mt J;obtain⟨v1,e1⟩:=Uq I;rw[e1] at N;obtain⟨X,Q,cX,V,K⟩:=Xk ih hG (Z0 hv (by simp)) (W:= .app p b) N;obtain⟨v2,rfl⟩:=Tf K;exact⟨.app p c,rfl,.move tE rE tF rF cC rD Q cX,⟨lF,lE,V⟩,v2⟩
  |pair T a b=>
   have d:thn (V0 (N0 f (ctxE G) (enc T)) 2) (fun _=> thn (some (d4 (enc T) 13)) fun s=> P3 (N0 f (ctxE G) (enc a)) (kd s.kids 0) (thn (some (mkV (Q0 (enc a) (kd s.kids 1) 0 0))) fun w=> P3 (N0 f (ctxE G) (enc b)) w (some (enc T,0))))=some (x,0):=h;obtain⟨s,l,o⟩:=v9 d;obtain⟨S,i,rfl,L,rA,O,bA,hi⟩:=Ld ih hG (Z0 hv (by simp)) l;obtain⟨J,I⟩:=Mt o;obtain⟨N,K⟩:=bw J;generalize (d4 (enc T) 13).1=q at I N K;obtain⟨B,rfl,r,-,vB⟩:=Vg N;obtain⟨C,R,rfl⟩:=Wu K;obtain⟨X,Q,cX,V,h8⟩:=Xk ih hG (Z0 hv (by simp)) (W:=C) I;obtain⟨h9,H⟩:=Mt h8;obtain⟨v1,e1⟩:=Uq h9;have e:Q0 (enc a) (kd (enc (.sg C R)).kids 1) 0 0=enc (R.inst a):=xo R a;rw[e1,e] at H;obtain⟨Y,tY,cY,lY,U⟩:=Xk ih hG (Z0 hv (by simp)) H;simp only[bW,cK,and_true] at U;exact⟨T,U.symm,.pair L rA r Q cX tY cY,⟨O,V,lY⟩,Z0 hv (by simp)⟩
  |fst a=>
   have d:thn (V0 (N0 f (ctxE G) (enc a)) 13) (fun s=> some (kd s.kids 0,0))=some (x,0):=h;obtain⟨s,l,o⟩:=v9 d;obtain⟨F,C,R,rfl,tF,rF,lF,vC,vR⟩:=gk ih hG (Z0 hv (by simp)) l;simp only[bW,cK,and_true] at o;exact⟨C,o.symm,.fst tF rF,lF,vC⟩
  |snd a=>
   have d:thn (V0 (N0 f (ctxE G) (enc a)) 13) (fun s=> some (mkV (Q0 (.mk 15 0 [enc a]) (kd s.kids 1) 0 0)))=some (x,0):=h;obtain⟨s,l,o⟩:=v9 d;obtain⟨F,C,R,rfl,tF,rF,lF,vC,vR⟩:=gk ih hG (Z0 hv (by simp)) l;obtain⟨v,rfl⟩:=Tf o;have e:Q0 (.mk 15 0 [enc a]) (kd (enc (.sg C R)).kids 1) 0 0=enc (R.inst (.fst a)):=xo R (.fst a);rw[e] at v⊢;exact⟨_,rfl,.snd tF rF,lF,v⟩
end Go.Proofs.YtckhbnmfnpolgaaGreat
namespace Go.Proofs.YtckhbnmfnpolgaaGreat
open Go Go.RowKit
def n9(R:List Nat)(w a:aK):Prop:=w.heap.size<=a.heap.size/\ ∀b,b < w.heap.size->b∉R->a.heap[b]? =w.heap[b]?
theorem Ext.offR{R:List Nat}{w a:aK}(h:Ext w a):n9 R w a:=⟨h.size,fun b c _=> h.heap b c⟩
theorem n9.trans{R:List Nat}{a b c:aK}(h:n9 R a b)(k:n9 R b c):n9 R a c:=⟨Nat.le_trans h.1 k.1,fun x hx hr=>(k.2 x (aX hx h.1) hr).trans (h.2 x hx hr)⟩
theorem n9.cell{R:List Nat}{w c:aK}(h:n9 R w c){b o:Nat}{v:aS}(hc:w.cell? ⟨b,o,none⟩=some v)(hr:b∉R):c.cell? ⟨b,o,none⟩=some v:=
 (World.cell?_of_block (w:=w) (a:=⟨b,o,none⟩) (h.2 b (World.block_lt_of_cell? w ⟨b,o,none⟩ hc) hr)).trans hc
theorem n9.set3{R:List Nat}{a b:aK}(h:n9 R a b){r:Nat}(hr:r∈R)(x y z:aS):n9 R a (((b.setCell ⟨r,0,none⟩ x).setCell ⟨r,1,none⟩ y).setCell ⟨r,2,none⟩ z):=
 ⟨by simpa using h.1,fun c hc hn=> by
  have d:c≠r:=fun e=> hn (e▸hr)
  rw[aL _ _ _ _ d,aL _ _ _ _ d,aL _ _ _ _ d];exact h.2 c hc hn⟩
theorem InT.offR{R:List Nat}{w c:aK}{t:Tr}{v:aS}(h:InT w (fun b=> b∉R) t v)(e:n9 R w c):InT c (fun b=> b∉R) t v:=
 InT.mono (fun b a=> a.1) (fun b a=> e.2 b a.2 a.1) h.bound
theorem InT.offB{B:Nat}{R:List Nat}{w c:aK}{t:Tr}{v:aS}(h:InT w (fun b=> B<=b/\b∉R) t v)(e:n9 R w c):InT c (fun b=> B<=b/\b∉R) t v:=
 InT.mono (fun b a=> a.1) (fun b a=> e.2 b a.2 a.1.2) h.bound
def Ub(B:Nat)(R:List Nat)(w:aK)(r:Nat)(t:Tr):Prop:= ∃x y z,w.heap[r]? =some (.cells #[x,y,z] 25 (0,0))/\InT w (fun b=> B<=b/\b∉R) t (.agg #[x,y,z])
def E3(B:Nat)(R:List Nat)(T:Nat->Tr)(x y:aK×Unit):Prop:=n9 R x.1 y.1/\Below B x.1 y.1/\ ∀r,r∈R->y.1.heap[r]? =x.1.heap[r]? \/Ub B R y.1 r (T r)
section
variable {B : Nat} {R : List Nat} {T : Nat → Tr} {x y z : aK × Unit}
theorem Ub.e{r:Nat}(h:Ub B R x.1 r (T r))(hr:r∈R)(e:E3 B R T x y):Ub B R y.1 r (T r):=by
 rcases e.2.2 r hr with k|k
 · obtain⟨a,b,c,d,g⟩:=h
   exact⟨a,b,c,k.trans d,g.offB e.1⟩
 · exact k
theorem E3.refl:E3 B R T x x:=⟨(xr _).offR,Below.refl _ _,fun _ _=> .inl rfl⟩
theorem E3.trans(h:E3 B R T x y)(k:E3 B R T y z):E3 B R T x z:=⟨h.1.trans k.1,Below.trans h.2.1 k.2.1,fun r hr=> by
 rcases k.2.2 r hr with a|a
 · rcases h.2.2 r hr with b|b
   · exact .inl (a.trans b)
   · exact .inr (Ub.e b hr k)
 · exact .inr a⟩
theorem E3.ext{a:aK}(b: ∀r,r∈R->r < x.1.heap.size)(c:B<=x.1.heap.size)(e:Ext x.1 a):E3 B R T x (a,()):=⟨e.offR,Below.mono e c,fun r hr=> .inl (e.heap r (b r hr))⟩
theorem E3.lt{w a:aK}(h:E3 B R T (w,()) (a,()))(b: ∀r,r∈R->r < w.heap.size): ∀r,r∈R->r < a.heap.size:=fun r hr=> aX (b r hr) h.1.1
theorem E3.put{w:aK}{r:Nat}(hr:r∈R)(i:B<=r){u v t:aS}(g: ∃a b c,w.heap[r]? =some (.cells #[a,b,c] 25 (0,0)))(h:InT w (fun b=> B<=b/\b∉R) (T r) (.agg #[u,v,t])):
 E3 B R T (w,()) (((w.setCell ⟨r,0,none⟩ u).setCell ⟨r,1,none⟩ v).setCell ⟨r,2,none⟩ t,())/\Ub B R (((w.setCell ⟨r,0,none⟩ u).setCell ⟨r,1,none⟩ v).setCell ⟨r,2,none⟩ t) r (T r):=by
 obtain⟨a,b,c,g⟩:=g;have e:n9 R w (((w.setCell ⟨r,0,none⟩ u).setCell ⟨r,1,none⟩ v).setCell ⟨r,2,none⟩ t):=n9.set3 (xr w).offR hr u v t;have H:Ub B R (((w.setCell ⟨r,0,none⟩ u).setCell ⟨r,1,none⟩ v).setCell ⟨r,2,none⟩ t) r (T r):=⟨u,v,t,M6 (M6 (M6 g 0 u) 1 v) 2 t,h.offB e⟩;refine⟨⟨e,Below.setCell (Below.setCell (Below.setCell (Below.refl _ _) i u) i v) i t,fun q j=> ?_⟩,H⟩;by_cases d:q=r
 · exact .inr (d▸H)
 · exact .inl (by rw[aL _ _ _ _ d,aL _ _ _ _ d,aL _ _ _ _ d])
end
inductive S3 where
 |any
 |tree (t:Tr)
 |put (r:Nat)
def S3.holds(B:Nat)(R:List Nat)(T:Nat->Tr):S3->aS->aK×Unit->Prop
 | .any,_,_=> True
 | .tree t,v,x=> InT x.1 (fun b=> B<=b/\b∉R) t v
 | .put r,_,x=> r∈R/\Ub B R x.1 r (T r)
def Zy(B:Nat)(R:List Nat)(T:Nat->Tr)(l:List S3)(i:Nat)(v:aS)(x:aK×Unit):Prop:=(l.getD i .any).holds B R T v x
theorem po{B:Nat}{R:List Nat}{T:Nat->Tr}(l:List S3)(i:Nat)(v:aS)(x y:aK×Unit)(h:Zy B R T l i v x)(e:E3 B R T x y):Zy B R T l i v y:=by
 unfold Zy at h⊢;cases hs:l.getD i .any with
 |any=> trivial
 |tree t=> rw[hs] at h;exact InT.offB h e.1
 |put r=> rw[hs] at h;exact⟨h.1,h.2.e h.1 e⟩
theorem NB{P:Program}{ops:Array Oper}{Q:Exit->Act->aK->Prop}{S:aK->Prop}{b:Array Bool}{d:Act}{fuel:Nat}{W:aK}(B:Nat)(R:List Nat)(T:Nat->Tr)(m N:Nat)(e:Array Bool)(i:Nat)(l:List S3)(is:List Nat)(hS: ∀w,n9 R W w->S w)(hc:(((List.range m).filter (fun j=> !Ord.isOn b j)==is)&& Ord.okX ops b m N m && fuel==Ord.opnO b ops.size && Ord.doneO b m==e && Ord.opnO e ops.size==i)=true)(hN:d.tmps.size=N)
 (c:Ord.StL P ops Q b m (E3 B R T) (Zy B R T l) d (W,()) is)
 (fin: ∀(v:Nat->aS) w,E3 B R T (W,()) (w,())->(∀j,j < m->Ord.isOn b j=false->Zy B R T l j (v j) (w,()))->wpAnyH P .any ops Q S i e (is.foldl (fun a j=> a.put (Ord.dstOf ops j) (v j)) d) w):
 wpAnyH P .any ops Q S fuel b d W:=by
 simp only[aW,beq_iff_eq] at hc;obtain⟨⟨⟨⟨g,n⟩,p⟩,q⟩,o⟩:=hc;exact Ord.wpAnyH_orderX (w0:=(W,())) g n hN p q o (fun h=> absurd h (Nat.lt_irrefl _)) E3.refl (fun _ _ _ h r=> h.trans r) (po l) (fun w z h=> hS w h.1) c (fun v w z h k=> by rw[Ord.putN_l is g];exact fin v w h k)
theorem KA.offR{R:List Nat}{w i:aK}{b o:Nat}{t:Tr}{d j:Int}{g:Option Addr}{c k:Nat}(h:KA w (fun b=> b∉R) b o t d j g c k)(a:b∉R)(e:n9 R w i):KA i (fun b=> b∉R) b o t d j g c k:=
 ⟨e.cell h.1 a,e.cell h.2.1 a,e.cell h.2.2.1 a,aX h.2.2.2.1 e.1,h.2.2.2.2.offR e⟩
theorem E3.box{B:Nat}{R:List Nat}{T:Nat->Tr}{W w:aK}{z:Unit}(h:E3 B R T (W,()) (w,z)){r:Nat}(hr:r∈R)(d: ∃a b c,W.heap[r]? =some (.cells #[a,b,c] 25 (0,0))): ∃a b c,w.heap[r]? =some (.cells #[a,b,c] 25 (0,0)):=by
 rcases h.2.2 r hr with k|⟨a,b,c,k,-⟩
 · obtain⟨a,b,c,d⟩:=d
   exact⟨a,b,c,k.trans d⟩
 · exact⟨a,b,c,k⟩
def sd(r:Tr×Int)(i:Nat):Tr:=if r.2=0 then kd r.1.kids i else E2
theorem vp{s:Tr}{c:Int}{i:Nat}(hc:c≠0):sd (s,c) i=E2:=if_neg hc
theorem qg{s:Tr}{i:Nat}:sd (s,0) i=kd s.kids i:=if_pos rfl
def QI(w:aK)(r:Tr×Int)(e:Ending)(a:aK):Prop:= ∃g d c,e= .returned (.tuple #[g,d,c,.int .i64 r.2])/\InT a (fun b=> w.heap.size<=b) (sd r 0) g/\InT a (fun b=> w.heap.size<=b) (sd r 1) d/\InT a (fun b=> w.heap.size<=b) (sd r 2) c/\Ext w a
end Go.Proofs.YtckhbnmfnpolgaaGreat
namespace Go.Proofs.YtckhbnmfnpolgaaGreat
open Go.RowKit
theorem fB{x:Tr}(h:outT x=none)(f:Nat):T4 f x=(x,0):=by
 cases f <;>(unfold T4;rw[h])
theorem pA{x:Tr}{p:List Int}(h:outT x=some p):T4 0 x=(E2,1):=by
 unfold T4;rw[h]
theorem YB{x:Tr}{p:List Int}(h:outT x=some p)(hv:j0 m0 (conA x p)=false)(f:Nat):T4 (f+1) x=(E2,2):=by
 rw[T4,h];simp only;rw[if_neg (by rw[hv];decide)]
theorem FA{x:Tr}{p:List Int}(h:outT x=some p)(hv:j0 m0 (conA x p)=true)(f:Nat):T4 (f+1) x=T4 f (conA x p):=by
 rw[T4,h];simp only;rw[if_pos hv]
theorem eG(t:Tr)(f:Int)(w:aK)(v:aS)(b8:Lies w t v):
 Calls prog 96 #[v,.int .i64 f,.func (.func 97) #[] #[]] w fun e w'=> ∃r s,e= .returned (.tuple #[r,.int .i64 s,.int .i64 (we t f).2])/\P0 w w' 25 (we t f).1 r/\Ext w w':=by
 have HV:=hdq (fun W (hW:Ext w W)=> kr t W v (b8.ext hW));have E:we t f=if(j0 m0 t && kb f 0 200)=true then T4 f.toNat t else(E2,3):=rfl
 rw[E];clear E;obtain⟨z,hz⟩: ∃z,j0 m0 t=z:=⟨_,rfl⟩;obtain⟨y,hy⟩: ∃y,kb f 0 200=y:=⟨_,rfl⟩;rw[hz] at HV⊢;rw[hy];obtain⟨k,n,ks⟩:=t;obtain⟨A,cap,rfl,hl,hc,hK⟩:=Lies.mk_iff.1 b8;have m:=((xr w).alloc (.cells #[.int .i64 k,.int .i64 n,.slice A ks.length cap] 25)).alloc (.cells #[.int .i64 0,.int .i64 0,.slice none 0 0] 25);obtain⟨P,C,hs2⟩:=W3 (xr ((w.alloc (.cells #[.int .i64 k,.int .i64 n,.slice A ks.length cap] 25)).alloc (.cells #[.int .i64 0,.int .i64 0,.slice none 0 0] 25)));obtain⟨wS,Q⟩: ∃x,x=(w.alloc (.cells #[.int .i64 k,.int .i64 n,.slice A ks.length cap] 25)).alloc (.cells #[.int .i64 0,.int .i64 0,.slice none 0 0] 25):=⟨_,rfl⟩;rw[<-Q] at m P C hs2;cases z with
 |false=>
  rw[if_neg (by simp)];go_enter func96,ntmps96;go_wp2_with fail;rw[<-Q];clear Q;refine(HV.out _ m).mono ?_;rintro e w1 ⟨rfl,K⟩;obtain⟨I,H,J,f0,f1,f2⟩:=own3 (K.blk C);go_wp2_with fail;refine aO (v:= .tuple #[.agg #[.int .i64 0,.int .i64 0,.slice none 0 0],.int .i64 0,.int .i64 3]) (by simp[aQ,results96,go_sem,I,H,J]) rfl ⟨_,_,rfl,P0.leaf _ _ _ 0 0, ?_⟩;exact((((m.trans K).setCell (by simp) _).setCell (by simp) _).setCell (by simp) _)
 |true=>
  cases y with
  |false=>
   rw[if_neg (by simp)];go_enter func96,ntmps96;go_wp2_with fail;rw[<-Q];clear Q;refine(HV.out _ m).mono ?_;rintro e w1 ⟨rfl,K⟩;obtain⟨I,H,J,f0,f1,f2⟩:=own3 (K.blk C);go_wp2_with (go_at_call 51;refine(ri _ _ _ _).mono ?_;rw[hy];rintro e D ⟨rfl,rfl⟩)
   refine aO (v:= .tuple #[.agg #[.int .i64 0,.int .i64 0,.slice none 0 0],.int .i64 0,.int .i64 3]) (by simp[aQ,results96,go_sem,I,H,J]) rfl ⟨_,_,rfl,P0.leaf _ _ _ 0 0, ?_⟩;exact((((m.trans K).setCell (by simp) _).setCell (by simp) _).setCell (by simp) _)
  |true=>
   rw[if_pos (by simp)];obtain⟨df,hf2⟩:=Yf.1 hy;obtain⟨F,rfl⟩:=Int.eq_ofNat_of_zero_le df;rw[show((F:Int)).toNat=F from by omega];obtain⟨R,hR⟩: ∃R,T4 F (.mk k n ks)=R:=⟨_,rfl⟩;rw[hR];have HR:=hdq hR;have HY:=hdq hy;have HZ:=hdq hz;have HF:=hdq hf2;clear hy hR hz df hf2;go_enter func96,ntmps96;go_wp2_with fail;rw[<-Q];clear Q;refine(HV.out _ m).mono ?_;rintro e w1 ⟨rfl,K⟩;have ky:=K.blk P;have o8:=K.blk C;have hx1:=m.trans K;go_wp2_with (go_at_call 51;refine(ri _ _ _ _).mono ?_;rw[HY.out];rintro e D ⟨rfl,rfl⟩)
   clear HV m P C hs2 K b8 HY
   go_loopw [9] (fun i wr=> ∃(j:Nat) (l a:Int) (kids:List Tr) (A':Option Addr) (c':Nat),j<=F/\i= .int .i64 j/\
    Hid (T4 (F - j) (.mk l a kids)=R)/\Hid (j0 m0 (.mk l a kids)=true)/\kids.length<=c'/\c'<=maxLen/\InK wr (fun b=> b < wr.heap.size/\(b < w.heap.size\/w.heap.size+2<=b)) A' kids/\
    wr.heap[w.heap.size]? =some (.cells #[.int .i64 l,.int .i64 a,.slice A' kids.length c'] 25 (0,0))/\wr.heap[w.heap.size+1]? =some (.cells #[.int .i64 0,.int .i64 0,.slice none 0 0] 25 (0,0))/\Ext w wr) (fun i _=> F -(intOf i).toNat)
   case atStart=> exact⟨0,k,n,ks,A,cap,Nat.zero_le _,rfl,hdq HR.out,HZ,hl,hc,InK.mono (fun b d=>⟨aX d hx1.size,.inl d⟩) (fun b d=> hx1.heap b d) hK,ky,o8,hx1⟩
   case round=>
    obtain⟨j,l,a,kids,A',c',hj,rfl,V,gf,G7,G0,hT,d,E1,hx⟩:=hrel;have hsz:w.heap.size+1 < wr.heap.size:=O1 E1;have hL:Lies wr (.mk l a kids) (.agg #[.int .i64 l,.int .i64 a,.slice A' kids.length c']):=Lies.mk G7 G0 (InK.mono (fun b d=> d.1) (fun _ _=> rfl) hT);have HO:=CE (.mk l a kids) wr _ 30 (Ug gf.out).2 hL (by decide);have HOW:=hdq (fun W (hW:Ext wr W)=> ti (.mk l a kids) W _ (hL.ext hW) (by have:=(Ug gf.out).1;omega));have uh:=hdq (fun p (hp:outT (.mk l a kids)=some p) W (hW:Ext wr W) B c (hP:Qi W B p.length c p)=> OI (.mk l a kids) p gf.out (pp _ p hp) W _ (hL.ext hW) B p.length c hP (by have:=Tu _ 30 (Ug gf.out).2 p hp;omega));rw[show dd (.mk l a kids)=(outT (.mk l a kids)).getD [] from rfl] at HO;have U6:=hdq HO;clear HO hT hK ky o8 hx1;obtain⟨z0,z1,z2,-,-,-⟩:=own3 d;obtain⟨q,Z⟩: ∃q,outT (.mk l a kids)=q:=⟨_,rfl⟩;rw[Z] at U6;cases q with
    |none=>
     have HE:=hdq (V.out.symm.trans (fB Z (F - j)));clear uh Z V;go_wp2_with fail;refine U6.out.mono ?_;rintro e w2 ⟨x,rfl,-,o⟩;obtain⟨y0,y1,y2,-,-,-⟩:=own3 (o.blk d);clear z0 z1 z2;go_wp2_with fail;refine(HOW.out _ o).mono ?_;rintro e D ⟨r,rfl,U,h3⟩;obtain⟨b1,b2,b3,b4,b5,rfl⟩:=U.three';have L:=o.trans h3;obtain⟨I,H,J,f0,f1,f2⟩:=own3 (L.blk E1);have hw4:w.heap.size+2<=w2.heap.size:=by have:=o.size;omega
     clear y0 y1 y2;go_wp2_with fail;rw[HE.out];refine aO (v:= .tuple #[.agg #[.int .i64 b1,.int .i64 b2,.slice b3 b4 b5],.int .i64 j,.int .i64 0]) (by simp[aQ,results96,go_sem,I,H,J]) rfl ⟨_,_,rfl,P0.since (U.after ((((pa.refl _ _).setCell (p:=⟨w.heap.size+1,0,none⟩) (by show w.heap.size+1 < _;omega) (.int .i64 b1)).setCell (p:=⟨w.heap.size+1,1,none⟩) (by show w.heap.size+1 < _;omega) (.int .i64 b2)).setCell (p:=⟨w.heap.size+1,2,none⟩) (by show w.heap.size+1 < _;omega) (.slice b3 b4 b5))) (by omega), ?_⟩;exact((((hx.trans L).setCell (by simp) _).setCell (by simp) _).setCell (by simp) _)
    |some p=>
     have N8:=hdq (uh.out p Z);simp only[Option.isSome_some,Option.getD_some] at U6;have HQ:=hdq Z;clear uh Z HOW;by_cases hjF:j=F
     · have HE:=hdq (V.out.symm.trans (show T4 (F - j) (.mk l a kids)=(E2,1) by rw[show F - j=0 by omega];exact pA HQ.out))
       clear N8 V;subst hjF;go_wp2_with fail;refine U6.out.mono ?_;rintro e w2 ⟨x,rfl,N,o⟩;obtain⟨B,c,rfl,hP⟩:=Lw N;obtain⟨I,H,J,f0,f1,f2⟩:=own3 (o.blk E1);clear z0 z1 z2 N;go_wp2_with fail;rw[HE.out];refine aO (v:= .tuple #[.agg #[.int .i64 0,.int .i64 0,.slice none 0 0],.int .i64 j,.int .i64 1]) (by simp[aQ,results96,go_sem,I,H,J]) rfl ⟨_,_,rfl,P0.leaf _ _ _ 0 0, ?_⟩;exact((((hx.trans o).setCell (by simp) _).setCell (by simp) _).setCell (by simp) _)
     · have od:((j:Int)==(F:Int))=false:=beq_eq_false_iff_ne.2 (by omega)
       have oy:(j==F)=false:=beq_eq_false_iff_ne.2 hjF;have hlt:j < F:=by omega
       have zu:(j:Int) < 200:=by have:=HF.out;omega
       have hj4:F<=200:=by have:=HF.out;omega
       obtain⟨g,hg⟩: ∃g,F - j=g+1:=⟨F - j - 1,by omega⟩;have Y:F -(j+1)=g:=by omega
       have u:Qe (.mk l a kids) p=if j0 m0 (conA (.mk l a kids) p)=true then(conA (.mk l a kids) p,true) else(E2,false):=rfl
       have M:=V.out;rw[hg] at M;by_cases O:j0 m0 (conA (.mk l a kids) p)=true
       · rw[if_pos O] at u
         rw[FA HQ.out O,<-Y] at M;rw[u] at N8;clear u V hg Y;generalize conA (.mk l a kids) p=X at N8 M O;obtain⟨k2,n2,q17⟩:=X;have rk:=hdq M;have zr:=hdq O;clear M O;go_wp2_with fail;refine U6.out.mono ?_;rintro e w2 ⟨x,rfl,N,o⟩;obtain⟨B,c,rfl,hP⟩:=Lw N;obtain⟨y0,y1,y2,-,-,-⟩:=own3 (o.blk d);clear z0 z1 z2 N;go_wp2_with fail;refine(N8.out _ o _ _ hP).mono ?_;rintro e D ⟨r,rfl,U,h3⟩;have zj:=j2.made U;obtain⟨A2,c2,rfl,hl2,hc2,hK2⟩:=InT.mk_iff.1 zj;have L:=(o.trans h3).trans ((xr D).alloc (.cells #[.int .i64 k2,.int .i64 n2,.slice A2 q17.length c2] 25));obtain⟨I,H,J,f0,f1,f2⟩:=own3 (L.blk d);have Dl:=L.blk d;have qq:=L.blk E1;have Eu:wr.heap.size<=w2.heap.size:=o.size;have Gk:w2.heap.size<=D.heap.size:=h3.size;have KEEP:=hdq (fun(a0 a1 a2:aS) (b:Nat) (d:b < D.heap.size) (S:b≠w.heap.size)=>(show((((D.alloc (.cells #[.int .i64 k2,.int .i64 n2,.slice A2 q17.length c2] 25)).setCell ⟨w.heap.size,0,none⟩ a0).setCell ⟨w.heap.size,1,none⟩ a1).setCell ⟨w.heap.size,2,none⟩ a2).heap[b]? =D.heap[b]?from by
          rw[aL _ _ _ _ S,aL _ _ _ _ S,aL _ _ _ _ S];exact((xr D).alloc _).heap b d))
         clear y0 y1 y2 d E1 U zj;go_wp2_with fail
         go_roundw
         case rel=> exact⟨j+1,k2,n2,q17,A2,c2,hlt,by go_num,rk,zr,hl2,hc2,InK.mono (fun b d=>⟨by simp;omega,.inr (by omega)⟩) (fun b d=> KEEP.out _ _ _ b d.2 (by omega)) hK2,M6 (M6 (M6 Dl 0 _) 1 _) 2 _,bd (bd (bd qq (by simp) _) (by simp) _) (by simp) _,(((hx.trans L).setCell (by simp) _).setCell (by simp) _).setCell (by simp) _⟩
         case measure=> simp[intOf];omega
       · rw[if_neg O] at u
         rw[YB HQ.out (Bool.eq_false_iff.2 O)] at M;rw[u] at N8;have HE:=hdq M.symm;clear u V hg Y O M;go_wp2_with fail;refine U6.out.mono ?_;rintro e w2 ⟨x,rfl,N,o⟩;obtain⟨B,c,rfl,hP⟩:=Lw N;obtain⟨y0,y1,y2,-,-,-⟩:=own3 (o.blk d);clear z0 z1 z2 N;go_wp2_with fail;refine(N8.out _ o _ _ hP).mono ?_;rintro e D ⟨r,rfl,U,h3⟩;obtain⟨b1,b2,b3,b4,b5,rfl⟩:=U.three';have L:=(o.trans h3).trans ((xr D).alloc (.cells #[.int .i64 b1,.int .i64 b2,.slice b3 b4 b5] 25));obtain⟨I,H,J,f0,f1,f2⟩:=own3 (L.blk E1);clear y0 y1 y2;go_wp2_with fail;rw[HE.out];refine aO (v:= .tuple #[.agg #[.int .i64 0,.int .i64 0,.slice none 0 0],.int .i64 j,.int .i64 2]) (by simp[aQ,results96,go_sem,I,H,J]) rfl ⟨_,_,rfl,P0.leaf _ _ _ 0 0, ?_⟩;exact((((hx.trans L).setCell (by simp) _).setCell (by simp) _).setCell (by simp) _)
theorem fJ(t:Tr)(f:Int)(w:aK)(v:aS)(F:Lies w t v):
 Calls prog 52 #[v,.int .i64 f] w fun e H=> ∃r,e= .returned (.tuple #[r,.int .i64 (we t f).2])/\P0 w H 25 (we t f).1 r/\Ext w H:=by
 have D:=hdq (fun W (L:Ext w W)=> eG t f W v (F.ext L));obtain⟨S,hS⟩: ∃S,we t f=S:=⟨_,rfl⟩;rw[hS] at D⊢;obtain⟨k,n,q⟩:=t;obtain⟨A,cap,rfl,hl,hc,hK⟩:=Lies.mk_iff.1 F;clear hS;have a:=((xr w).alloc (.cells #[.int .i64 k,.int .i64 n,.slice A q.length cap] 25)).alloc (.cells #[.int .i64 0,.int .i64 0,.slice none 0 0] 25);obtain⟨l,b,m⟩:=W3 (xr ((w.alloc (.cells #[.int .i64 k,.int .i64 n,.slice A q.length cap] 25)).alloc (.cells #[.int .i64 0,.int .i64 0,.slice none 0 0] 25)));obtain⟨K,o⟩: ∃x,x=(w.alloc (.cells #[.int .i64 k,.int .i64 n,.slice A q.length cap] 25)).alloc (.cells #[.int .i64 0,.int .i64 0,.slice none 0 0] 25):=⟨_,rfl⟩;rw[<-o] at a l b m;go_enter func52,ntmps52;go_wp2_with fail;rw[<-o];clear o;refine(D.out _ a).mono ?_;rintro e E ⟨r,s,rfl,u,O⟩;obtain⟨g,j,c,i,d,rfl⟩:=u.three';have C:=O.trans ((xr E).alloc (.cells #[.int .i64 g,.int .i64 j,.slice c i d] 25));obtain⟨I,J,P,U,Q,V⟩:=own3 (C.blk b);have N:=u.ext ((xr E).alloc (.cells #[.int .i64 g,.int .i64 j,.slice c i d] 25));have M:w.heap.size+2<=K.heap.size:=by omega
 go_wp2_with fail;refine aO (v:= .tuple #[.agg #[.int .i64 g,.int .i64 j,.slice c i d],.int .i64 S.2]) (by simp[aQ,results52,go_sem,I,J,P]) rfl ⟨_,rfl,P0.since (N.after ((((pa.refl _ _).setCell (p:=⟨w.heap.size+1,0,none⟩) (by show w.heap.size+1 < _;omega) (.int .i64 g)).setCell (p:=⟨w.heap.size+1,1,none⟩) (by show w.heap.size+1 < _;omega) (.int .i64 j)).setCell (p:=⟨w.heap.size+1,2,none⟩) (by show w.heap.size+1 < _;omega) (.slice c i d))) (by omega), ?_⟩;exact((((a.trans C).setCell (by simp) _).setCell (by simp) _).setCell (by simp) _)
