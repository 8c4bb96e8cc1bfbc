/- Lemmas towards the law. -/
import Derived.Test.YtckhbnmfnpolgaaGreatTAV
open Go renaming World->aN,Value->aU,bodyPost_ret->aQ,results->aS,heap_alloc_new->aT
open Go.RowKit.Below renaming heap_setCell->aM
open Nat renaming le_succ->aR
open Go.Proofs.Tryz
set_option linter.all false
set_option maxHeartbeats 4000000
set_option maxRecDepth 100000
namespace Go.Proofs.YtckhbnmfnpolgaaGreat
open Go.RowKit
theorem OC{x:Tr}(h:outT x=none)(f:Nat):P5 f x=(x,0):=by
 cases f <;>(unfold P5;rw[h])
theorem VA{x:Tr}{p:List Int}(h:outT x=some p):P5 0 x=(D2,1):=by
 unfold P5;rw[h]
theorem jC{x:Tr}{p:List Int}(h:outT x=some p)(hv:valid sigT (conA x p)=false)(f:Nat):P5 (f+1) x=(D2,2):=by
 rw[P5,h];simp only;rw[if_neg (by rw[hv];decide)]
theorem iF{x:Tr}{p:List Int}(h:outT x=some p)(hv:valid sigT (conA x p)=true)(f:Nat):P5 (f+1) x=P5 f (conA x p):=by
 rw[P5,h];simp only;rw[if_pos hv]
theorem oG(t:Tr)(f:Int)(w:aN)(v:aU)(d6:Lies w t v):
 Calls prog 96 #[v,j0 f,.func (.func 97) #[] #[]] w fun e w'=> ∃r s,e= .returned (.tuple #[r,j0 s,j0 (Ze t f).2])/\W0 w w' 25 (Ze t f).1 r/\Ext w w':=by
 have HV:=hdq (fun W (hW:Ext w W)=> Qo t W v (d6.ext hW));have E:Ze t f=if(valid sigT t && ac f 0 200)=true then P5 f.toNat t else(D2,3):=rfl
 rw[E];clear E;obtain⟨z,hz⟩: ∃z,valid sigT t=z:=⟨_,rfl⟩;obtain⟨y,hy⟩: ∃y,ac f 0 200=y:=⟨_,rfl⟩;rw[hz] at HV⊢;rw[hy];obtain⟨k,n,ks⟩:=t;obtain⟨A,cap,rfl,hl,hc,hK⟩:=Lies.mk_iff.1 d6;have m:=((xr w).alloc (D0 k n A ks.length cap)).alloc M0;obtain⟨O,C,hs2⟩:=blk2 (xr ((w.alloc (D0 k n A ks.length cap)).alloc M0));obtain⟨wS,T⟩: ∃x,x=(w.alloc (D0 k n A ks.length cap)).alloc M0:=⟨_,rfl⟩;rw[<-T] at m O C hs2;cases z with
 |false=>
  rw[if_neg (by simp)];go_enter func96,ntmps96;go_wp2_with fail;rw[<-T];clear T;refine(HV.out _ m).mono ?_;rintro e w1 ⟨rfl,I⟩;obtain⟨K,J,G,f0,f1,f2⟩:=own3 (I.blk C);go_wp2_with fail;refine aQ (v:= .tuple #[m0 0 0 none 0 0,j0 0,j0 3]) (by simp[aS,results96,go_sem,K,J,G]) rfl ⟨_,_,rfl,W0.leaf _ _ _ 0 0, ?_⟩;exact((((m.trans I).setCell (by simp) _).setCell (by simp) _).setCell (by simp) _)
 |true=>
  cases y with
  |false=>
   rw[if_neg (by simp)];go_enter func96,ntmps96;go_wp2_with fail;rw[<-T];clear T;refine(HV.out _ m).mono ?_;rintro e w1 ⟨rfl,I⟩;obtain⟨K,J,G,f0,f1,f2⟩:=own3 (I.blk C);go_wp2_with (go_at_call 51;refine(dj _ _ _ _).mono ?_;rw[hy];rintro e D ⟨rfl,rfl⟩)
   refine aQ (v:= .tuple #[m0 0 0 none 0 0,j0 0,j0 3]) (by simp[aS,results96,go_sem,K,J,G]) rfl ⟨_,_,rfl,W0.leaf _ _ _ 0 0, ?_⟩;exact((((m.trans I).setCell (by simp) _).setCell (by simp) _).setCell (by simp) _)
  |true=>
   rw[if_pos (by simp)];obtain⟨gg,hf2⟩:=ti.1 hy;obtain⟨F,rfl⟩:=Int.eq_ofNat_of_zero_le gg;rw[show((F:Int)).toNat=F from by omega];obtain⟨R,hR⟩: ∃R,P5 F (.mk k n ks)=R:=⟨_,rfl⟩;rw[hR];have HR:=hdq hR;have HY:=hdq hy;have HZ:=hdq hz;have HF:=hdq hf2;clear hy hR hz gg hf2;go_enter func96,ntmps96;go_wp2_with fail;rw[<-T];clear T;refine(HV.out _ m).mono ?_;rintro e w1 ⟨rfl,I⟩;have mh:=I.blk O;have o9:=I.blk C;have hx1:=m.trans I;go_wp2_with (go_at_call 51;refine(dj _ _ _ _).mono ?_;rw[HY.out];rintro e D ⟨rfl,rfl⟩)
   clear HV m O C hs2 I d6 HY
   go_loopw [9] (fun i wr=> ∃(j:Nat) (a d:Int) (kids:List Tr) (A':Option Addr) (c':Nat),j<=F/\i= j0 j/\
    Hid (P5 (F - j) (.mk a d kids)=R)/\Hid (valid sigT (.mk a d kids)=true)/\kids.length<=c'/\c'<=maxLen/\InK wr (fun b=> b < wr.heap.size/\(b < w.heap.size\/w.heap.size+2<=b)) A' kids/\
    wr.heap[w.heap.size]? =some (D0 a d A' kids.length c')/\wr.heap[w.heap.size+1]? =some M0/\Ext w wr) (fun i _=> F -(intOf i).toNat)
   case atStart=> exact⟨0,k,n,ks,A,cap,Nat.zero_le _,rfl,hdq HR.out,HZ,hl,hc,InK.mono (fun b l=>⟨Nat.lt_of_lt_of_le l hx1.size,.inl l⟩) (fun b l=> hx1.heap b l) hK,mh,o9,hx1⟩
   case round=>
    obtain⟨j,a,d,kids,A',c',hj,rfl,P,jk,I7,I6,hT,l,Y,hx⟩:=hrel;have hsz:w.heap.size+1 < wr.heap.size:=D1 Y;have hL:Lies wr (.mk a d kids) (m0 a d A' kids.length c'):=Lies.mk I7 I6 (InK.mono (fun b l=> l.1) (fun _ _=> rfl) hT);have HO:=jK (.mk a d kids) wr _ 30 (jj jk.out).2 hL (by decide);have HOW:=hdq (fun W (hW:Ext wr W)=> Oi (.mk a d kids) W _ (hL.ext hW) (by have:=(jj jk.out).1;omega));have ux:=hdq (fun p (hp:outT (.mk a d kids)=some p) W (hW:Ext wr W) B c (hP:pm W B p.length c p)=> SK (.mk a d kids) p jk.out (Vq _ p hp) W _ (hL.ext hW) B p.length c hP (by have:=Xy _ 30 (jj jk.out).2 p hp;omega));rw[show ke (.mk a d kids)=(outT (.mk a d kids)).getD [] from rfl] at HO;have Z2:=hdq HO;clear HO hT hK mh o9 hx1;obtain⟨z0,z1,z2,-,-,-⟩:=own3 l;obtain⟨q,Z⟩: ∃q,outT (.mk a d kids)=q:=⟨_,rfl⟩;rw[Z] at Z2;cases q with
    |none=>
     have HE:=hdq (P.out.symm.trans (OC Z (F - j)));clear ux Z P;go_wp2_with fail;refine Z2.out.mono ?_;rintro e w2 ⟨x,rfl,-,o⟩;obtain⟨y0,y1,y2,-,-,-⟩:=own3 (o.blk l);clear z0 z1 z2;go_wp2_with fail;refine(HOW.out _ o).mono ?_;rintro e D ⟨r,rfl,S,V⟩;obtain⟨b1,b2,b3,b4,b5,rfl⟩:=S.three';have H:=o.trans V;obtain⟨K,J,G,f0,f1,f2⟩:=own3 (H.blk Y);have hw4:w.heap.size+2<=w2.heap.size:=by have:=o.size;omega
     clear y0 y1 y2;go_wp2_with fail;rw[HE.out];refine aQ (v:= .tuple #[m0 b1 b2 b3 b4 b5,j0 j,j0 0]) (by simp[aS,results96,go_sem,K,J,G]) rfl ⟨_,_,rfl,W0.since (S.after ((((Ua.refl _ _).setCell (p:=⟨w.heap.size+1,0,none⟩) (by show w.heap.size+1 < _;omega) (j0 b1)).setCell (p:=⟨w.heap.size+1,1,none⟩) (by show w.heap.size+1 < _;omega) (j0 b2)).setCell (p:=⟨w.heap.size+1,2,none⟩) (by show w.heap.size+1 < _;omega) (.slice b3 b4 b5))) (by omega), ?_⟩;exact((((hx.trans H).setCell (by simp) _).setCell (by simp) _).setCell (by simp) _)
    |some p=>
     have P7:=hdq (ux.out p Z);simp only[Option.isSome_some,Option.getD_some] at Z2;have HQ:=hdq Z;clear ux Z HOW;by_cases hjF:j=F
     · have HE:=hdq (P.out.symm.trans (show P5 (F - j) (.mk a d kids)=(D2,1) by rw[show F - j=0 by omega];exact VA HQ.out))
       clear P7 P;subst hjF;go_wp2_with fail;refine Z2.out.mono ?_;rintro e w2 ⟨x,rfl,N,o⟩;obtain⟨B,c,rfl,hP⟩:=oA N;obtain⟨K,J,G,f0,f1,f2⟩:=own3 (o.blk Y);clear z0 z1 z2 N;go_wp2_with fail;rw[HE.out];refine aQ (v:= .tuple #[m0 0 0 none 0 0,j0 j,j0 1]) (by simp[aS,results96,go_sem,K,J,G]) rfl ⟨_,_,rfl,W0.leaf _ _ _ 0 0, ?_⟩;exact((((hx.trans o).setCell (by simp) _).setCell (by simp) _).setCell (by simp) _)
     · have pz:((j:Int)==(F:Int))=false:=beq_eq_false_iff_ne.2 (by omega)
       have qu:(j==F)=false:=beq_eq_false_iff_ne.2 hjF;have hlt:j < F:=by omega
       have Ak:(j:Int) < 200:=by have:=HF.out;omega
       have hj4:F<=200:=by have:=HF.out;omega
       obtain⟨g,hg⟩: ∃g,F - j=g+1:=⟨F - j - 1,by omega⟩;have Q:F -(j+1)=g:=by omega
       have u:Ue (.mk a d kids) p=if valid sigT (conA (.mk a d kids) p)=true then(conA (.mk a d kids) p,true) else(D2,false):=rfl
       have M:=P.out;rw[hg] at M;by_cases L:valid sigT (conA (.mk a d kids) p)=true
       · rw[if_pos L] at u
         rw[iF HQ.out L,<-Q] at M;rw[u] at P7;clear u P hg Q;generalize conA (.mk a d kids) p=X at P7 M L;obtain⟨k2,n2,y17⟩:=X;have xd:=hdq M;have Dq:=hdq L;clear M L;go_wp2_with fail;refine Z2.out.mono ?_;rintro e w2 ⟨x,rfl,N,o⟩;obtain⟨B,c,rfl,hP⟩:=oA N;obtain⟨y0,y1,y2,-,-,-⟩:=own3 (o.blk l);clear z0 z1 z2 N;go_wp2_with fail;refine(P7.out _ o _ _ hP).mono ?_;rintro e D ⟨r,rfl,S,V⟩;have Ae:=E2.made S;obtain⟨A2,c2,rfl,hl2,hc2,hK2⟩:=InT.mk_iff.1 Ae;have H:=(o.trans V).trans ((xr D).alloc (D0 k2 n2 A2 y17.length c2));obtain⟨K,J,G,f0,f1,f2⟩:=own3 (H.blk l);have Fz:=H.blk l;have xy:=H.blk Y;have Lh:wr.heap.size<=w2.heap.size:=o.size;have Li:w2.heap.size<=D.heap.size:=V.size;have KEEP:=hdq (fun(a0 a1 a2:aU) (b:Nat) (l:b < D.heap.size) (U:b≠w.heap.size)=>(show((((D.alloc (D0 k2 n2 A2 y17.length c2)).setCell ⟨w.heap.size,0,none⟩ a0).setCell ⟨w.heap.size,1,none⟩ a1).setCell ⟨w.heap.size,2,none⟩ a2).heap[b]? =D.heap[b]?from by
          rw[aM _ _ _ _ U,aM _ _ _ _ U,aM _ _ _ _ U];exact((xr D).alloc _).heap b l))
         clear y0 y1 y2 l Y S Ae;go_wp2_with fail
         go_roundw
         case rel=> exact⟨j+1,k2,n2,y17,A2,c2,hlt,by go_num,xd,Dq,hl2,hc2,InK.mono (fun b l=>⟨by simp;omega,.inr (by omega)⟩) (fun b l=> KEEP.out _ _ _ b l.2 (by omega)) hK2,b6 (b6 (b6 Fz 0 _) 1 _) 2 _,fe (fe (fe xy (by simp) _) (by simp) _) (by simp) _,(((hx.trans H).setCell (by simp) _).setCell (by simp) _).setCell (by simp) _⟩
         case measure=> simp[intOf];omega
       · rw[if_neg L] at u
         rw[jC HQ.out (Bool.eq_false_iff.2 L)] at M;rw[u] at P7;have HE:=hdq M.symm;clear u P hg Q L M;go_wp2_with fail;refine Z2.out.mono ?_;rintro e w2 ⟨x,rfl,N,o⟩;obtain⟨B,c,rfl,hP⟩:=oA N;obtain⟨y0,y1,y2,-,-,-⟩:=own3 (o.blk l);clear z0 z1 z2 N;go_wp2_with fail;refine(P7.out _ o _ _ hP).mono ?_;rintro e D ⟨r,rfl,S,V⟩;obtain⟨b1,b2,b3,b4,b5,rfl⟩:=S.three';have H:=(o.trans V).trans ((xr D).alloc (D0 b1 b2 b3 b4 b5));obtain⟨K,J,G,f0,f1,f2⟩:=own3 (H.blk Y);clear y0 y1 y2;go_wp2_with fail;rw[HE.out];refine aQ (v:= .tuple #[m0 0 0 none 0 0,j0 j,j0 2]) (by simp[aS,results96,go_sem,K,J,G]) rfl ⟨_,_,rfl,W0.leaf _ _ _ 0 0, ?_⟩;exact((((hx.trans H).setCell (by simp) _).setCell (by simp) _).setCell (by simp) _)
theorem TK(t:Tr)(f:Int)(w:aN)(v:aU)(D:Lies w t v):
 Calls prog 52 #[v,j0 f] w fun e u=> ∃r,e= .returned (.tuple #[r,j0 (Ze t f).2])/\W0 w u 25 (Ze t f).1 r/\Ext w u:=by
 have z:=hdq (fun W (J:Ext w W)=> oG t f W v (D.ext J));obtain⟨S,hS⟩: ∃S,Ze t f=S:=⟨_,rfl⟩;rw[hS] at z⊢;obtain⟨k,n,o⟩:=t;obtain⟨A,cap,rfl,hl,hc,hK⟩:=Lies.mk_iff.1 D;clear hS;have a:=((xr w).alloc (D0 k n A o.length cap)).alloc M0;obtain⟨l,b,m⟩:=blk2 (xr ((w.alloc (D0 k n A o.length cap)).alloc M0));obtain⟨H,q⟩: ∃x,x=(w.alloc (D0 k n A o.length cap)).alloc M0:=⟨_,rfl⟩;rw[<-q] at a l b m;go_enter func52,ntmps52;go_wp2_with fail;rw[<-q];clear q;refine(z.out _ a).mono ?_;rintro e B ⟨r,s,rfl,y,F⟩;obtain⟨c,d,i,g,j,rfl⟩:=y.three';have C:=F.trans ((xr B).alloc (D0 c d i g j));obtain⟨L,K,G,O,M,N⟩:=own3 (C.blk b);have E:=y.ext ((xr B).alloc (D0 c d i g j));have I:w.heap.size+2<=H.heap.size:=by omega
 go_wp2_with fail;refine aQ (v:= .tuple #[m0 c d i g j,j0 S.2]) (by simp[aS,results52,go_sem,L,K,G]) rfl ⟨_,rfl,W0.since (E.after ((((Ua.refl _ _).setCell (p:=⟨w.heap.size+1,0,none⟩) (by show w.heap.size+1 < _;omega) (j0 c)).setCell (p:=⟨w.heap.size+1,1,none⟩) (by show w.heap.size+1 < _;omega) (j0 d)).setCell (p:=⟨w.heap.size+1,2,none⟩) (by show w.heap.size+1 < _;omega) (.slice i g j))) (by omega), ?_⟩;exact((((a.trans C).setCell (by simp) _).setCell (by simp) _).setCell (by simp) _)
end Go.Proofs.YtckhbnmfnpolgaaGreat
namespace Go.Proofs.YtckhbnmfnpolgaaGreat
open Go.RowKit
open M (Hd HR Cv Ty j2 rc a7 O5)
def Nb(x:An):Prop:= ∀s c,x=some (s,c)->c=0\/c=2
theorem Nb.thn{x:An}{f:Tr->An}(h:Nb x)(k: ∀s,x=some (s,0)->Nb (f s)):Nb (thn x f):=by
 intro s c e;rcases Yr e with⟨u,a,b⟩ |⟨u,g,a,b,d⟩
 · exact k u a s c b
 · simp only[Prod.mk.injEq] at d
   obtain⟨-,rfl⟩:=d;exact h u _ a
theorem Nb.one{y:Tr×Int}(h:y.2=0\/y.2=2):Nb (some y):=by
 intro s c e;simp only[Option.some.injEq] at e;subst e;exact h
theorem Nb.ok(u:Tr):Nb (some (u,0)):=Nb.one (.inl rfl)
theorem Nb.mk(t:Tr):Nb (some (mkV t)):=Nb.one (by unfold mkV;split <;> simp)
theorem Nb.shp{F c:M.Tm}{kind:Int}(r:HR F c)(hc:M.hk c≠0)(hk:(enc c).kind=kind):Nb (some (S4 (enc F) kind)):=by
 refine Nb.one ?_;unfold S4
 split
 · simp
 · rename_i f
   have b:b8 (enc F) 200=((b8 (enc F) 200).1,0):=by
    have d:(b8 (enc F) 200).2=0:=by simpa using f
    rw[<-d]
   obtain⟨B,e,a,hs,-⟩:=nj b;rw[Us a hs r hc] at e;rw[e,if_neg (by rw[hk];simp)];simp
theorem Nb.frm{x:An}{kind:Int}(h:Nb x)(k: ∀s,x=some (s,0)-> ∃F c,s=enc F/\HR F c/\M.hk c≠0/\(enc c).kind=kind):Nb (Q0 x kind):=
 h.thn fun s e=> by
  obtain⟨F,c,rfl,r,hc,hk⟩:=k s e;exact Nb.shp r hc hk
theorem Nb.chk{x y:An}{W:M.Tm}(h:Nb x)(k: ∀s,x=some (s,0)-> ∃X,s=enc X/\Cv X W)(a:Nb y):Nb (E4 x (enc W) y):=
 h.thn fun s e=> by
  obtain⟨X,rfl,c⟩:=k s e
  split
  · exact a
  · rename_i b
    exact Nb.one (.inr ((Vj c).resolve_left b))
theorem Nb.fam{x y:An}{T:M.Tm}(h:Nb x)(k: ∀s,x=some (s,0)-> ∃F C D j,s=enc F/\HR F (.pi C D)/\Cv C T/\HR D (.sort j))(a:Nb y):Nb (Ea x (enc T) y):=by
 have l:Nb (Q0 x 3):=h.frm fun s e=> by
  obtain⟨F,C,D,j,rfl,r,-,-⟩:=k s e;exact⟨F,.pi C D,rfl,r,by simp[M.hk],rfl⟩
 refine l.thn fun s e=> ?_
 obtain⟨u,d,c,m⟩:=vf e;obtain⟨F,C,D,j,rfl,r,b,i⟩:=k u d;obtain⟨B,rfl,g,hs,-⟩:=nj c;obtain rfl:=Us g hs r (by simp[M.hk])
 split
 · exact(Nb.shp (F:=D) i (by simp[M.hk]) rfl).thn fun _ _=> a
 · rename_i f
   exact Nb.one (.inr ((Vj (A:=C) b).resolve_left f))
theorem Wi{f:Nat}{G:List M.Tm}{t A:M.Tm}{s:Tr}(hG:y6 G)(hv:valid sigT (enc t)=true)(h:Ty G t A)(e:P0 f (ctxE G) (enc t)=some (s,0)):s=enc A/\valid sigT (enc A)=true:=by
 obtain⟨B,rfl,a,-,v⟩:=snd f G t s hG hv e;obtain rfl:=a.det h;exact⟨rfl,v⟩
theorem Rx{f:Nat}{G:List M.Tm}{k:Int}{A t:M.Tm}(hk:T4 k 1=1)(h:Nb (P0 f (ctxE (A::G)) (enc t))):Nb (Ma (P0 f) (ctxE G) k [enc A,enc t] 1):=by
 rw[To _ _ hk]
 split
 · exact Nb.one (.inr rfl)
 · rw[show ctxE G++ [kd [enc A,enc t] 0]=ctxE (A::G) from(de A G).symm]
   exact h
theorem AB{f:Nat}{G:List M.Tm}{k:Int}{A t:M.Tm}{s:Tr}(hk:T4 k 1=1)(h:Ma (P0 f) (ctxE G) k [enc A,enc t] 1=some (s,0)):P0 f (ctxE (A::G)) (enc t)=some (s,0):=by
 have:=(Qu hk h).2
 rwa [show ctxE G++ [kd [enc A,enc t] 0]=ctxE (A::G) from(de A G).symm] at this
theorem Nk: ∀(f:Nat) (G:List M.Tm) (t A:M.Tm),y6 G->valid sigT (enc t)=true->Ty G t A->j2 G t->Nb (P0 f (ctxE G) (enc t))
 |0,G,t,A,hG,hv,h,hl=> by intro s c e;cases e
 |f+1,G,t,A,hG,hv,h,hl=> by
  have ih:=Nk f G;have J:=Nk f;have H: ∀{X S:M.Tm} {i:Nat},Ty G X S->HR S (.sort i)->j2 G X->a7 G X:=fun{X S i} d l m=>⟨m,i,M.lev_le (j2.type d hG.wf m) l,S,d,l⟩
  have lev: ∀{X S:M.Tm} {i:Nat},valid sigT (enc X)=true->Ty G X S->HR S (.sort i)->j2 G X->Nb (Q0 (P0 f (ctxE G) (enc X)) 2):=fun{X S i} v d l m=>
   (ih X S hG v d m).frm fun s e=>⟨S,.sort i,(Wi hG v d e).1,l,by simp[M.hk],rfl⟩
  have chk: ∀{X S W:M.Tm} {y:An},valid sigT (enc X)=true->Ty G X S->Cv S W->j2 G X->Nb y->Nb (E4 (P0 f (ctxE G) (enc X)) (enc W) y):=fun{X S W y} v d l m V=>
   (ih X S hG v d m).chk (fun s e=>⟨S,(Wi hG v d e).1,l⟩) V
  have fam: ∀{X F C D T:M.Tm} {j:Nat} {y:An},valid sigT (enc X)=true->Ty G X F->HR F (.pi C D)->Cv C T->HR D (.sort j)->j2 G X->Nb y->Nb (Ea (P0 f (ctxE G) (enc X)) (enc T) y):=fun{X F C D T j y} v d l m q u V=>
   (ih X F hG v d u).fam (fun s e=>⟨F,C,D,j,(Wi hG v d e).1,l,m,q⟩) V
  cases h with
  | @var _ n A h=>
   have hn:=M.lk_lt h
   show Nb (some (Oj (ctxE G) (n:Int)))
   rw[DD hn];exact Nb.mk _
  | @sort _ n=>
   have hn:n < 3:=hl;have e:P0 (f+1) (ctxE G) (enc (.sort n))=some (if(n:Int)=3 then(D2,(1:Int)) else(m7 ((n:Int)+1),0)):=by simp[enc,P0,Sc]
   rw[e,if_neg (by omega)];exact Nb.ok _
  |nat=> exact Nb.ok (m7 0)
  |zero=> exact Nb.ok L6
  | @succ _ a X d l=> exact chk (W:= .nat) (Z0 hv (by simp)) d l hl (Nb.ok L6)
  | @pi _ A B S K i k d l m q=>
   have r:=hG.cons (H d l hl.1) (Z0 hv (by simp));exact(lev (Z0 hv (by simp)) d l hl.1).thn fun s _=>((Rx rfl (J _ B K r (Z0 hv (by simp)) m hl.2)).frm fun s e=>⟨K,.sort k,(Wi r (Z0 hv (by simp)) m (AB rfl e)).1,q,by simp[M.hk],rfl⟩).thn fun _ _=> Nb.ok _
  | @sg _ A B S K i k d l m q=>
   have r:=hG.cons (H d l hl.1) (Z0 hv (by simp));exact(lev (Z0 hv (by simp)) d l hl.1).thn fun s _=>((Rx rfl (J _ B K r (Z0 hv (by simp)) m hl.2)).frm fun s e=>⟨K,.sort k,(Wi r (Z0 hv (by simp)) m (AB rfl e)).1,q,by simp[M.hk],rfl⟩).thn fun _ _=> Nb.ok _
  | @lam _ A t B S i d l m=>
   have bA:=H d l hl.1;have r:=hG.cons bA (Z0 hv (by simp));refine(lev (Z0 hv (by simp)) d l hl.1).thn fun s _=>(Rx rfl (J _ t B r (Z0 hv (by simp)) m hl.2.1)).thn fun b e=> ?_
   obtain⟨rfl,vB⟩:=Wi r (Z0 hv (by simp)) m (AB rfl e);refine(Nb.mk (.mk 3 0 [enc A,enc B])).thn fun o eo=> ?_
   obtain⟨v,rfl⟩:=ai eo;obtain⟨k,lk⟩:=m.corr r.wf.wf;have hk:=hl.2.2 B k m lk;have lB:j2 (A::G) B:=by
    rcases j2.type m r.wf hl.2.1 with rfl|b
    · have:=lk.det (O5.sort _ 3)
      omega
    · exact b.1
   obtain⟨K,N,P⟩:=lk;exact(ih (.pi A B) _ hG v (.pi d l N P) ⟨hl.1,lB⟩).thn fun _ _=> Nb.ok _
  | @app _ g a F X C R d l m q=>
   refine((ih g F hG (Z0 hv (by simp)) d hl.1).frm fun s e=>⟨F,.pi C R,(Wi hG (Z0 hv (by simp)) d e).1,l,by simp[M.hk],rfl⟩).thn fun s e=> ?_
   obtain⟨F',C',R',rfl,tF,rF,-,-,-⟩:=Vk (snd f) hG (Z0 hv (by simp)) e;obtain rfl:=tF.det d;obtain⟨rfl,rfl⟩:=rF.pi_det l;exact chk (W:=C') (Z0 hv (by simp)) m q hl.2 (Nb.mk _)
  | @elim _ p z s a F Z S X C D k d l m q u I L h8 h9 Q=>
   refine fam (T:= .nat) (Z0 hv (by simp)) d l m q hl.1 ((Nb.mk (.mk 5 0 [enc p,.mk 7 0 []])).thn fun w x=> ?_);obtain⟨v,rfl⟩:=ai x;refine chk (W:= .app p .zero) (Z0 hv (by simp)) u I hl.2.1 ((Nb.mk (Oc (enc p))).thn fun w x=> ?_);obtain⟨v,rfl⟩:=ai x;rw[uq];exact chk (Z0 hv (by simp)) L h8 hl.2.2.1 (chk (W:= .nat) (Z0 hv (by simp)) h9 Q hl.2.2.2 (Nb.mk _))
  | @id _ T a b S X Y i d l m q u I=>
   exact(lev (Z0 hv (by simp)) d l hl.1).thn fun s _=> chk (Z0 hv (by simp)) m q hl.2.1 (chk (Z0 hv (by simp)) u I hl.2.2 (Nb.ok _))
  | @refl _ a X d=>
   refine(ih a X hG (Z0 hv (by simp)) d hl.1).thn fun s e=> ?_
   obtain⟨rfl,vX⟩:=Wi hG (Z0 hv (by simp)) d e;obtain⟨k,lk⟩:=d.corr hG.wf.wf;have hk:=hl.2 X k d lk;have lX:j2 G X:=by
    rcases j2.type d hG.wf hl.1 with rfl|b
    · have:=lk.det (O5.sort _ 3)
      omega
    · exact b.1
   obtain⟨K,N,P⟩:=lk;exact(lev vX N P lX).thn fun _ _=> Nb.mk _
  | @move _ p e a E T b c F T' D k X d l m q u I L h8=>
   refine((ih e E hG (Z0 hv (by simp)) d hl.2.1).frm fun s O=>⟨E,.id T b c,(Wi hG (Z0 hv (by simp)) d O).1,l,by simp[M.hk],rfl⟩).thn fun s O=> ?_
   obtain⟨E',U,b',c',rfl,tE,rE,-,-,-,-⟩:=yq (snd f) hG (Z0 hv (by simp)) O;obtain rfl:=tE.det d;obtain⟨rfl,rfl,rfl⟩:=rE.id_det l;refine fam (T:=U) (Z0 hv (by simp)) m q u I hl.1 ((Nb.mk (.mk 5 0 [enc p,enc b'])).thn fun w x=> ?_);obtain⟨v,rfl⟩:=ai x;exact chk (W:= .app p b') (Z0 hv (by simp)) L h8 hl.2.2 (Nb.mk _)
  | @pair _ T a b S i C D X Y d l m q u I L=>
   refine(lev (Z0 hv (by simp)) d l hl.1).thn fun s _=>(Nb.shp (F:=A) m (by simp[M.hk]) rfl).thn fun s e=> ?_
   have e1:S4 (enc A) 13=(s,0):=Option.some.inj e;obtain⟨e2,e3⟩:=Vz (t:=enc A) (kind:=13) (by rw[e1]);rw[e1] at e2 e3;obtain⟨B,rfl,rB,hs,-⟩:=nj e2;obtain rfl:=Us rB hs m (by simp[M.hk]);refine chk (W:=C) (Z0 hv (by simp)) q u hl.2.1 ((Nb.mk _).thn fun w x=> ?_);obtain⟨v,rfl⟩:=ai x;rw[show X0 (kd [enc A,enc a,enc b] 1) (kd (enc (.sg C D)).kids 1) 0 0=enc (D.inst a) from Yp D a];exact chk (Z0 hv (by simp)) I L hl.2.2 (Nb.ok _)
  | @fst _ a X C D d l=> exact((ih a X hG (Z0 hv (by simp)) d hl).frm fun s e=>⟨X,.sg A D,(Wi hG (Z0 hv (by simp)) d e).1,l,by simp[M.hk],rfl⟩).thn fun _ _=> Nb.ok _
  | @snd _ a X C D d l=> exact((ih a X hG (Z0 hv (by simp)) d hl).frm fun s e=>⟨X,.sg C D,(Wi hG (Z0 hv (by simp)) d e).1,l,by simp[M.hk],rfl⟩).thn fun _ _=> Nb.mk _
end Go.Proofs.YtckhbnmfnpolgaaGreat
namespace Go.Proofs.YtckhbnmfnpolgaaGreat
theorem Wq{G D:List M.Tm}(h:ctxE G=ctxE D):G=D:=by
 unfold ctxE at h;have h:=List.reverse_inj.1 h
 induction G generalizing D with
 |nil=> cases D with
  |nil=> rfl
  |cons a D=> cases h
 |cons a G ih=> cases D with
  |nil=> cases h
  |cons b D=>
   simp only[List.map_cons,List.cons.injEq] at h;rw[wd h.1,ih (by rw[h.2]) h.2]
end Go.Proofs.YtckhbnmfnpolgaaGreat
namespace Go.Proofs.YtckhbnmfnpolgaaGreat
open Go Go.RowKit
attribute [local go_sem ↓] Go.wp_at_zero Go.wp_at_succ
theorem Xk(t:Tr)(hv:valid sigT t=true)(a:aN)(v:aU)(D:Lies a t v)(g:Nat)(z:Bool)(r:a.heap[g]? =some (.cells #[.bool z] 4 (0,0))):Calls prog 57 #[v,O2 g] a fun e A=> ∃u,e= .returned u/\InT A (fun b=> a.heap.size<=b) (okT (shfT 1 t 0)) u/\i1 [g] a A/\A.heap[g]? =some (.cells #[.bool (z && valid sigT (shfT 1 t 0))] 4 (0,0)):=by
 have s:=hdq (fun W (K:Ext a W)=> aD t 1 0 W v (D.ext K) hv (by omega) (by omega) (by omega) (by omega));have I:=D1 r;generalize okT (shfT 1 t 0)=T at s⊢;generalize valid sigT (shfT 1 t 0)=y at s⊢;obtain⟨k,n,Q⟩:=t;obtain⟨At,ct,rfl,-⟩:=Lies.mk_iff.1 D;clear D hv;go_enter func57,ntmps57;go_wp2_with fail;generalize E:World.alloc (World.alloc a _) _=F;obtain⟨J,br,P,w⟩:=box2 E.symm;clear E J;refine(s.out F w).mono ?_;rintro e j ⟨u,rfl,q,G⟩;replace q:=q.at' (N:=fun b=> F.heap.size<=b) fun b h=> h
 obtain⟨_,_,_,_,_,rfl⟩:=q.three;have e:=w.trans G;have c:=fun o=> E1 ((e.alloc o).blk r) 0
 have U:=fun o=> mc ((e.alloc o).blk r) 0
 have R:=G.blk br;have S:=D1 R;have M: ¬g=j.heap.size:=by omega
 have m: ¬g=a.heap.size+1:=by omega
 clear br s;have H:=fun o x=> cbn ((aM (j.alloc o) ⟨g,0,none⟩ x (a.heap.size+1) (fun h=> m h.symm)).trans (((xr j).alloc o).blk R))
 have O: ∀o x i f d,i1 [g] a ((((j.alloc o).setCell ⟨g,0,none⟩ x).setCell ⟨a.heap.size+1,0,none⟩ i).setCell ⟨a.heap.size+1,1,none⟩ f|>.setCell ⟨a.heap.size+1,2,none⟩ d):=fun o x i f d=>
  (((((oE (e.alloc o)).setCell (p:=⟨g,0,none⟩) (List.mem_singleton.2 rfl) x)).setNew (aR _) _).setNew (aR _) _).setNew (aR _) _
 have B: ∀o x i f d,((((j.alloc o).setCell ⟨g,0,none⟩ x).setCell ⟨a.heap.size+1,0,none⟩ i).setCell ⟨a.heap.size+1,1,none⟩ f|>.setCell ⟨a.heap.size+1,2,none⟩ d).heap[g]? =some (.cells #[x] 4 (0,0)):=fun o x i f d=> by
  rw[aM _ _ _ _ m,aM _ _ _ _ m,aM _ _ _ _ m];exact b6 ((e.alloc o).blk r) 0 x
 have T: ∀o x i f d,InT ((((j.alloc o).setCell ⟨g,0,none⟩ x).setCell ⟨a.heap.size+1,0,none⟩ i).setCell ⟨a.heap.size+1,1,none⟩ f|>.setCell ⟨a.heap.size+1,2,none⟩ d) (fun b=> a.heap.size<=b) _ _:=fun o x i f d=> InT.mono (fun b l=> Nat.le_trans w.size l.1) (fun b l=> by
  have L: ¬b=g:=by have:=l.1;have:=w.size;omega
  have C: ¬b=a.heap.size+1:=by have:=l.1;omega
  rw[aM _ _ _ _ C,aM _ _ _ _ C,aM _ _ _ _ C,aM _ _ _ _ L];exact((xr j).alloc o).heap b l.2) q.bound
 cases z
 · go_wp2_with fail
   exact aQ (by simp[aS,results57,go_sem,H]) rfl ⟨_,rfl,T _ _ _ _ _,O _ _ _ _ _,B _ _ _ _ _⟩
 · go_wp2_with fail
   exact aQ (by simp[aS,results57,go_sem,H]) rfl ⟨_,rfl,T _ _ _ _ _,O _ _ _ _ _,B _ _ _ _ _⟩
end Go.Proofs.YtckhbnmfnpolgaaGreat
namespace Go.Proofs.YtckhbnmfnpolgaaGreat
open Go.RowKit
attribute [local go_sem ↓] Go.wp_at_zero Go.wp_at_succ
def Me(t:Tr):Tr×Bool:=match outT t with
 |none=>(t,false)
 |some p=>(conA t p,true)
theorem Sr{a:List Tr}{j:Nat}(h:j < a.length):kd a j=a[j]:=by unfold kd;rw[List.getD_eq_getElem?_getD,List.getElem?_eq_getElem h];rfl
theorem yK{a:List Tr}{j:Nat}(h:j < a.length):rd j (a.drop j)=match outT (kd a j) with
 |some p=> some ((j:Int)::p)
 |none=> rd (j+1) (a.drop (j+1)):=by
 rw[List.drop_eq_getElem_cons h,rd,Sr h];cases outT a[j] <;> rfl
theorem zI{a:List Tr}{j:Nat}(h:a.length<=j):rd j (a.drop j)=none:=by
 rw[List.drop_of_length_le h,rd]
theorem IB{k n:Int}{a:List Tr}{t:Tr}(h:valid sigT (.mk k n a)=true)(hm:t∈a):valid sigT t=true:=by
 obtain⟨d,b⟩:=N4 h;have c:=(m6 d).2.2.2 t hm;unfold valid;rw[Qz c (by omega),Bool.true_and,decide_eq_true_eq];have:=ya hm;simp only[cnt] at b;omega
def WE(N:Nat->Prop)(w:aN)(o:Tr×Bool)(e:Ending)(a:aN):Prop:= ∃r,e= .returned (.tuple #[r,.bool o.2])/\InT a N o.1 r/\Ext w a
def WH(t:Tr):Prop:=valid sigT t=true-> ∀(w:aN) (N:Nat->Prop) (v:aU),(∀b,w.heap.size<=b->N b)->InT w N t v->Calls prog 152 #[v,.bool false] w (WE N w (Me t))
theorem CI: ∀t:Tr,WH t:=Tr.ind fun k n c ih=> by
 intro hv H N v hN d6;obtain⟨R,K⟩: ∃R,Me (.mk k n c)=R:=⟨_,rfl⟩;rw[K];obtain⟨hsh,D4⟩:=N4 hv;have L:=d6.lies';have O7:=hdq d6;have O:=hdq (fun W (hx:Ext H W)=> Ft (.mk k n c) 30 hsh W v (L.ext hx));have mi:J4 (.mk k n c)=rdx k c:=rfl;rw[mi] at O;obtain⟨A,cap,rfl,hl,hc,hK⟩:=InT.mk_iff.1 d6;have hcc:=hc;unfold maxLen at hcc;have hlc:=Tg c;simp only[cnt] at D4;obtain⟨w1,J⟩: ∃x,x=((H.alloc (D0 k n A c.length cap)).alloc M0):=⟨_,rfl⟩;obtain⟨C,B,s1,D⟩:=box2 J;obtain⟨M,V⟩: ∃M,M=(fun b=> N b/\b≠H.heap.size+1):=⟨_,rfl⟩;have Dd: ∀b,w1.heap.size<=b->M b:=by rw[V];exact Va hN D.size (by omega)
 have Cm:InK w1 M A c:=by rw[V];exact hK.keep D (aR _)
 have O6:=hdq Dd;have xh:=hdq Cm;have HM:=hdq V;clear V Dd Cm hK d6 mi;by_cases hr:rdx k c=0
 · have d:outT (.mk k n c)=rd 0 c:=by rw[outT,if_pos hr]
   have hk:=fun t (ht:t∈c)=> ih t ht (IB hv ht)
   have Jp:=hdq hk;have Mi:=hdq d;have Y6:=hdq K;have Gy:=hdq L;rw[hr] at O;clear ih hk d K hv hr L hsh;go_enter func152,ntmps152;go_wp2_with fail;rw[<-J];clear J;refine(O.out _ D).mono ?_;rintro e w2 ⟨rfl,s⟩;have s2:=s.size;have w:=s;have u:=cb3 (w.blk C);have g:=Ca (w.blk B);go_wp2_with fail;clear u g
   go_loopw [6] (fun i wr=> ∃j:Nat,j<=c.length/\i= j0 j/\Ext w2 wr/\Hid (outT (.mk k n c)=rd j (c.drop j))) (fun i _=> c.length -(intOf i).toNat)
   case atStart=> exact⟨0,Nat.zero_le _,rfl,xr _,hdq (by rw[Mi.out];rfl)⟩
   case round=>
    obtain⟨j,hj,rfl,f,HJ⟩:=hrel;generalize wr=w3 at f;have s3:=f.size;by_cases l:j < c.length
    · have vx:(j:Int) <(c.length:Int):=by omega
      have m:=w.trans f;obtain⟨b,o,F,E,A1,p1,q16,rfl,E7,c0,c1,c2,l1,m1,M6,p6,l8,sr⟩:=(xh.out.later m).get (fun _ _=> rfl) l;have HI:=hdq (Jp.out _ l8 w3 M _ (fun b y=> O6.out b (Nat.le_trans m.size y)) p6);obtain⟨⟨Y,ok⟩,hT⟩: ∃x,Me (.mk F E q16)=x:=⟨_,rfl⟩;rw[hT] at HI;have HT:=hdq hT;have Cz:IntKind.i64.wrap ((j:Int)+1)=(j:Int)+1:=IntWalk.i64_in _ ⟨by omega,by omega⟩;clear hT M6 p6;have u:=cb3 (m.blk C);have g:=Ca (m.blk B);go_wp2_with fail;clear u g;refine(HI.out).mono ?_;rintro e P ⟨r,rfl,xz,X⟩;have s4:=X.size;obtain⟨a1,a2,a3,a4,a5,rfl⟩:=xz.three;have xk:=hdq xz;clear xz;have a:=HJ.out.trans (yK l);rw[Sr l,E7.out] at a;cases ok with
      |false=>
       have V2:=f;have qg:=V2.trans X;have hn:outT (.mk F E q16)=none:=by
        have:=HT.out;unfold Me at this;cases S:outT (.mk F E q16) with
        |none=> rfl
        |some p=> rw[S] at this;simp at this
       rw[hn] at a;have HST:=hdq a;clear a hn;go_wp2_with fail
       go_roundw
       case rel=> exact⟨j+1,by omega,by go_num,qg.alloc _,HST⟩
       case measure=> simp[intOf];omega
      |true=>
       obtain⟨p,hp,Hg⟩: ∃p,outT (.mk F E q16)=some p/\conA (.mk F E q16) p=Y:=by
        have:=HT.out;unfold Me at this;cases S:outT (.mk F E q16) with
        |none=> rw[S] at this;simp at this
        |some p=> rw[S] at this;simp only[Prod.mk.injEq,and_true] at this;exact⟨p,rfl,this⟩
       rw[hp] at a;have Iq:=Vq _ p hp;rw[<-E7.out,<-Sr l] at Iq Hg;have z:R=(.mk k n (c.set j Y),true):=by
        rw[<-Y6.out];unfold Me;rw[a];simp only;rw[cy l Iq,Hg]
       have HF:=hdq z;clear a z Iq Hg hp Cz;have p5:=m.trans X;have u:=cb3 (p5.blk C);have g:=Ca (p5.blk B);obtain⟨U,p7⟩: ∃x,x=P.alloc (D0 a1 a2 a3 a4 a5):=⟨_,rfl⟩;have e5:Ext P U:=p7▸(xr P).alloc _;have gl:=aT P (D0 a1 a2 a3 a4 a5);rw[<-p7] at gl;have s5:P.heap.size < U.heap.size:=D1 gl;go_wp2_with fail;rw[<-p7];clear p7;clear u g;have Q:=D;have G:=Q.trans s;have I:=G.trans f;have s9:=I.trans X;have M4:=s9.trans e5;have U3:=e5;refine(qH k n c Y j (fun b=> M b/\b < U.heap.size) U _ _ (Gy.out.ext M4) (fun b y=> y.2) ((xk.out.later U3).bound) l (by simp only[cnt];omega)).mono ?_;rintro e w6 ⟨r,rfl,Ai,Z⟩;have s6:=Z.size;have F3:=p5.trans e5;have uv:InT w6 M (.mk k n (c.set j Y)) r:=InT.mono (fun b y=> by
        rcases y with y|y
        · exact y.1
        · exact O6.out b (by have:=F3.size;omega)) (fun _ _=> rfl) Ai
       obtain⟨u1,u2,u3,u4,u5,rfl⟩:=uv.three;have Ih:=hdq uv;clear Ai uv;have cr:=F3.trans Z;have u:=cb3 (cr.blk C);have g:=Ca (cr.blk B);have fz:=Z;have Zx:=cb3 (fz.blk gl);have fu:=M4.trans Z;go_wp2_with fail;rw[HF.out];refine aQ (v:= .tuple #[m0 u1 u2 u3 u4 u5,.bool true]) (by simp[aS,results152,go_sem,g]) rfl ⟨_,rfl,InT.ret (HM.out▸Ih.out) _ _ _,(fu.set3 (by omega) _ _ _)⟩
    · have d:outT (.mk k n c)=none:=HJ.out.trans (zI (by omega))
      have z:R=(.mk k n c,false):=by
       rw[<-Y6.out];unfold Me;rw[d]
      have HF:=hdq z;clear d z;have Jd:=s.blk C;have Hb:=s.blk B;have bt_3:=f.blk Jd;have br_3:=f.blk Hb;have Q:=D;have G:=Q.trans s;have I:=G.trans f;have w:=s;have m:=w.trans f;have u:=cb3 (m.blk C);have g:=Ca (m.blk B);go_wp2_with fail;rw[HF.out];refine aQ (v:= .tuple #[m0 k n A c.length cap,.bool false]) (by simp[aS,results152,go_sem,g]) rfl ⟨_,rfl,InT.ret (InT.keep O7.out I (show H.heap.size<=H.heap.size+1 from aR _)) _ _ _,(I.set3 (by omega) _ _ _)⟩
 · have hz:(rdx k c !=0)=true:=by simp[hr]
   have z:R=(ctrT (.mk k n c),true):=by
    rw[<-K];unfold Me;rw[outT,if_neg hr];simp only;rw[Wv]
   have HC:=hdq (fun W (hx:Ext H W)=> rL (.mk k n c) hv (Bx.2 hr) W _ (L.ext hx));rw[z];generalize rdx k c=q at O hz;generalize ctrT (.mk k n c)=T at HC⊢;clear ih K hv hr L hsh z;go_enter func152,ntmps152;go_wp2_with fail;rw[<-J];clear J;refine(O.out _ D).mono ?_;rintro e w2 ⟨rfl,s⟩;have s2:=s.size;have w:=s;have u:=cb3 (w.blk C);have g:=Ca (w.blk B);go_wp2_with fail;clear u g;have Q:=D;have G:=Q.trans s;refine(HC.out _ G).mono ?_;rintro e w3 ⟨r,rfl,hT,f⟩;have s3:=f.size;have nt:InT w3 M T r:=InT.mono (fun b y=> O6.out b (by have:=w.size;omega)) (fun _ _=> rfl) hT;obtain⟨u1,u2,u3,u4,u5,rfl⟩:=nt.three;have Ib:=hdq nt;clear hT nt;have m:=w.trans f;have u:=cb3 (m.blk C);have g:=Ca (m.blk B);have I:=G.trans f;go_wp2_with fail;refine aQ (v:= .tuple #[m0 u1 u2 u3 u4 u5,.bool true]) (by simp[aS,results152,go_sem,g]) rfl ⟨_,rfl,InT.ret (HM.out▸Ib.out) _ _ _,(I.set3 (by omega) _ _ _)⟩
theorem wI(t:Tr)(hv:valid sigT t=true)(G:aN)(N:Nat->Prop)(v:aU)(hN: ∀b,G.heap.size<=b->N b)(d6:InT G N t v):Calls prog 111 #[v,.bool false] G (n9 N G (ik t)):=by
 have D:=hdq (fun W (M:Nat->Prop) (I: ∀b,W.heap.size<=b->M b) (h:InT W M t v)=> CI t hv W M v I h);have HC:=hdq (fun W (hx:Ext G W)=> Ou t W v (d6.lies'.ext hx) (by have:=(N4 hv).2;omega));have O7:=hdq d6;have X:ik t=match outT t with|none=>(t,0) |some p=> if valid sigT (conA t p)=true then(conA t p,1) else(D2,2):=rfl
 unfold Me at D;rw[X];clear X;generalize outT t=q at D⊢;obtain⟨k,n,P⟩:=t;obtain⟨A,cap,rfl,hl,hc,hK⟩:=InT.mk_iff.1 d6;clear d6 hK hv;obtain⟨S,F⟩: ∃x,x=((G.alloc (D0 k n A P.length cap)).alloc M0):=⟨_,rfl⟩;obtain⟨K,J,s1,O⟩:=box2 F;obtain⟨M,I⟩: ∃M,M=(fun b=> N b/\b≠G.heap.size+1):=⟨_,rfl⟩;have O6:=hdq (show∀b,S.heap.size<=b->M b by rw[I];exact Va hN O.size (by omega));have Jo:=hdq (show InT S M _ _ by rw[I];exact O7.out.keep O (aR _));have HM:=hdq I;clear I hN;cases q with
 |none=>
  simp only at D⊢;go_enter func111,ntmps111;go_wp2_with fail;rw[<-F];clear F;refine(D.out S M O6.out Jo.out).mono ?_;rintro e c ⟨r,rfl,hT,j⟩;have s2:=j.size;obtain⟨B,u,o,w,s,rfl⟩:=hT.three;clear hT;have g:=j;have C:=cb3 (g.blk K);have f:=Ca (g.blk J);obtain⟨l,a⟩: ∃x,x=c.alloc (D0 B u o w s):=⟨_,rfl⟩;have m:Ext c l:=a▸(xr c).alloc _;have i:=aT c (D0 B u o w s);rw[<-a] at i;have s3:c.heap.size < l.heap.size:=D1 i;go_wp2_with fail;rw[<-a];clear a;clear C f;have Z:=O;have U:=Z.trans j;have L:=U.trans m;have H:=g.trans m;refine(HC.out l L).mono ?_;rintro e w4 ⟨u1,u2,u3,u4,u5,z,y,rfl,hT,d,Q,hy⟩;have s4:=d.size;have xk:=hdq (show InT w4 M _ _ from InT.mono (fun b hb=> O6.out b (by have:=H.size;omega)) (fun _ _=> rfl) hT);clear hT Q hy;have E:=H.trans d;have C:=cb3 (E.blk K);have f:=Ca (E.blk J);have R:=d;have Zx:=cb3 (R.blk i);have V:=L.trans d;go_wp2_with fail;refine aQ (v:= .tuple #[m0 u1 u2 u3 u4 u5,j0 0]) (by simp[aS,results111,go_sem,f]) rfl ⟨_,rfl,InT.ret (HM.out▸xk.out) _ _ _,(V.set3 (by omega) _ _ _)⟩
 |some p=>
  simp only at D⊢;obtain⟨z,Q⟩: ∃z,valid sigT (conA (.mk k n P) p)=z:=⟨_,rfl⟩;rw[Q];have HV:=hdq (fun W v (h:Lies W (conA (.mk k n P) p) v)=> Q▸rj (conA (.mk k n P) p) W v h);generalize conA (.mk k n P) p=T at D HV⊢;clear Q;cases z with
  |false=>
   rw[if_neg (by simp)];go_enter func111,ntmps111;go_wp2_with fail;rw[<-F];clear F;refine(D.out S M O6.out Jo.out).mono ?_;rintro e c ⟨r,rfl,hT,j⟩;have s2:=j.size;obtain⟨B,u,o,w,s,rfl⟩:=hT.three;have HT:=hdq hT;clear hT;have g:=j;have C:=cb3 (g.blk K);have f:=Ca (g.blk J);obtain⟨l,a⟩: ∃x,x=c.alloc (D0 B u o w s):=⟨_,rfl⟩;have m:Ext c l:=a▸(xr c).alloc _;have i:=aT c (D0 B u o w s);rw[<-a] at i;have s3:c.heap.size < l.heap.size:=D1 i;go_wp2_with fail;rw[<-a];clear a;clear C f;have Y:=m;refine(HV.out l _ (HT.out.later Y).lies').mono ?_;rintro e w4 ⟨rfl,d⟩;have s4:=d.size;have qg:=Y.trans d;have H:=g.trans m;have E:=H.trans d;have C:=cb3 (E.blk K);have f:=Ca (E.blk J);have R:=d;have Zx:=cb3 (R.blk i);have Z:=O;have U:=Z.trans j;have L:=U.trans m;have V:=L.trans d;go_wp2_with fail;refine aQ (v:= .tuple #[m0 0 0 none 0 0,j0 2]) (by simp[aS,results111,go_sem,f]) rfl ⟨_,rfl,Z5 _ _ 0 0,(V.set3 (by omega) _ _ _)⟩
  |true=>
   rw[if_pos rfl];go_enter func111,ntmps111;go_wp2_with fail;rw[<-F];clear F;refine(D.out S M O6.out Jo.out).mono ?_;rintro e c ⟨r,rfl,hT,j⟩;have s2:=j.size;obtain⟨B,u,o,w,s,rfl⟩:=hT.three;have HT:=hdq hT;clear hT;have g:=j;have C:=cb3 (g.blk K);have f:=Ca (g.blk J);obtain⟨l,a⟩: ∃x,x=c.alloc (D0 B u o w s):=⟨_,rfl⟩;have m:Ext c l:=a▸(xr c).alloc _;have i:=aT c (D0 B u o w s);rw[<-a] at i;have s3:c.heap.size < l.heap.size:=D1 i;go_wp2_with fail;rw[<-a];clear a;clear C f;have Y:=m;refine(HV.out l _ (HT.out.later Y).lies').mono ?_;rintro e w4 ⟨rfl,d⟩;have s4:=d.size;have qg:=Y.trans d;have H:=g.trans m;have E:=H.trans d;have C:=cb3 (E.blk K);have f:=Ca (E.blk J);have R:=d;have Zx:=cb3 (R.blk i);have Z:=O;have U:=Z.trans j;have L:=U.trans m;have V:=L.trans d;go_wp2_with fail;refine aQ (v:= .tuple #[m0 B u o w s,j0 1]) (by simp[aS,results111,go_sem,f]) rfl ⟨_,rfl,InT.ret (HM.out▸HT.out.later qg) _ _ _,(V.set3 (by omega) _ _ _)⟩
def nf(a:aN)(b:Nat):Prop:=b≠a.heap.size/\b≠a.heap.size+1
theorem EB(t:Tr)(F:Nat)(hF:F<=200)(hv:valid sigT t=true)(d:aN)(v:aU)(d6:Lies d t v):
 Calls prog 68 #[v,j0 F,.bool false] d fun e w'=> ∃r,e= .returned (.tuple #[r,j0 (P5 F t).2])/\Lies w' (P5 F t).1 r/\Ext d w':=by
 obtain⟨R,hR⟩: ∃R,P5 F t=R:=⟨_,rfl⟩;rw[hR];obtain⟨k,n,ks⟩:=t;obtain⟨A,cap,rfl,hl,hc,hK⟩:=Lies.mk_iff.1 d6;obtain⟨w1,e9⟩: ∃x,x=((d.alloc (D0 k n A ks.length cap)).alloc M0):=⟨_,rfl⟩;obtain⟨j6,j4,s1,e1⟩:=box2 e9;have Dc:InT w1 (nf d) (.mk k n ks) (m0 k n A ks.length cap):=InT.mono (fun b E=>⟨by have:b < d.heap.size:=E;omega,by have:b < d.heap.size:=E;omega⟩) (fun b E=> e1.heap b E) d6;have HR:=hdq hR;have jk:=hdq hv;clear hR hv d6 hK;go_enter func68,ntmps68;go_wp2_with fail;rw[<-e9];clear e9
 go_loopw [1] (fun i wr=> ∃(j:Nat) (m o:Int) (kids:List Tr) (A':Option Addr) (Y:Nat),j<=F/\i= j0 j/\Hid (P5 j (.mk m o kids)=R)/\Hid (valid sigT (.mk m o kids)=true)/\kids.length<=Y/\Y<=maxLen/\InT wr (nf d) (.mk m o kids) (m0 m o A' kids.length Y)/\
  wr.heap[d.heap.size]? =some (D0 m o A' kids.length Y)/\wr.heap[d.heap.size+1]? =some M0/\Ext d wr) (fun i _=>(intOf i).toNat)
 case atStart=> exact⟨F,k,n,ks,A,cap,Nat.le_refl _,rfl,HR,jk,hl,hc,Dc,j6,j4,e1⟩
 case round=>
  obtain⟨j,m,o,kids,A',Y,hj,rfl,J,HV,I7,I6,hT,mm,s,hx⟩:=hrel;have hsz:d.heap.size+1 < wr.heap.size:=D1 s;have C:=hdq (wI (.mk m o kids) HV.out wr (nf d) _ (fun b E=>⟨by omega,by omega⟩) hT);have a:ik (.mk m o kids)=match outT (.mk m o kids) with|none=>(.mk m o kids,0) |some p=> if valid sigT (conA (.mk m o kids) p)=true then(conA (.mk m o kids) p,1) else(D2,2):=rfl
  obtain⟨B,y,z,-,-,-⟩:=own3 mm;clear hT Dc j6 j4 e1 s1;obtain⟨q,H⟩: ∃q,outT (.mk m o kids)=q:=⟨_,rfl⟩;rw[H] at a;cases q with
  |none=>
   simp only at a;rw[a] at C;have U:=hdq ((OC H j).symm.trans J.out);clear a H;go_wp2_with fail;refine C.out.mono ?_;rintro e c ⟨r,rfl,g,f⟩;obtain⟨G,D,K,O,L,rfl⟩:=g.three;have T:=hdq g;have Ez:=hdq (show d.heap.size+1 < c.heap.size by have:=f.size;omega);have S:d.heap.size < c.heap.size:=by have:=f.size;omega
   clear g B y z;have l:Ext c (c.alloc (D0 G D K O L)):=(xr c).alloc _;have u:=f.blk s;obtain⟨B,y,z,y0,y1,y2⟩:=own3 u;obtain⟨Q,P,M,o0,o1,o2⟩:=own3 (l.blk u);clear S;go_wp2_with fail;rw[<-U.out];refine aQ (v:= .tuple #[m0 G D K O L,j0 0]) (by simp[aS,results68,go_sem,B,y,z,Q,P,M]) rfl ⟨_,rfl,InT.lies' (InT.ret (N:=fun _=> True) (InT.mono (fun b E=>⟨trivial,E.2⟩) (fun b E=> rfl) (T.out.later l)) _ _ _),((((hx.trans f).trans l).setCell (by simp;try omega) _).setCell (by simp;try omega) _).setCell (by simp;try omega) _⟩
  |some p=>
   simp only at a;by_cases km:j=0
   · have U:=hdq ((show P5 j (.mk m o kids)=(D2,1) by rw[km];exact VA H).symm.trans J.out)
     subst km;by_cases w:valid sigT (conA (.mk m o kids) p)=true
     · rw[if_pos w] at a
       rw[a] at C;clear a H w J;go_wp2_with fail;refine C.out.mono ?_;rintro e c ⟨r,rfl,g,f⟩;obtain⟨G,D,K,O,L,rfl⟩:=g.three;have T:=hdq g;have Ez:=hdq (show d.heap.size+1 < c.heap.size by have:=f.size;omega);have S:d.heap.size < c.heap.size:=by have:=f.size;omega
       clear g B y z;have l:Ext c (c.alloc (D0 G D K O L)):=(xr c).alloc _;have u:=f.blk s;obtain⟨B,y,z,y0,y1,y2⟩:=own3 u;obtain⟨Q,P,M,o0,o1,o2⟩:=own3 (l.blk u);clear S;go_wp2_with fail;rw[<-U.out];refine aQ (v:= .tuple #[m0 0 0 none 0 0,j0 1]) (by simp[aS,results68,go_sem,B,y,z,Q,P,M]) rfl ⟨_,rfl,InT.lies' (Z5 _ (fun _=> True) 0 0),((((hx.trans f).trans l).setCell (by simp;try omega) _).setCell (by simp;try omega) _).setCell (by simp;try omega) _⟩
     · rw[if_neg w] at a
       rw[a] at C;clear a H w J;go_wp2_with fail;refine C.out.mono ?_;rintro e c ⟨r,rfl,g,f⟩;obtain⟨G,D,K,O,L,rfl⟩:=g.three;have T:=hdq g;have Ez:=hdq (show d.heap.size+1 < c.heap.size by have:=f.size;omega);have S:d.heap.size < c.heap.size:=by have:=f.size;omega
       clear g B y z;have l:Ext c (c.alloc (D0 G D K O L)):=(xr c).alloc _;have u:=f.blk s;obtain⟨B,y,z,y0,y1,y2⟩:=own3 u;obtain⟨Q,P,M,o0,o1,o2⟩:=own3 (l.blk u);clear S;go_wp2_with fail;rw[<-U.out];refine aQ (v:= .tuple #[m0 0 0 none 0 0,j0 1]) (by simp[aS,results68,go_sem,B,y,z,Q,P,M]) rfl ⟨_,rfl,InT.lies' (Z5 _ (fun _=> True) 0 0),((((hx.trans f).trans l).setCell (by simp;try omega) _).setCell (by simp;try omega) _).setCell (by simp;try omega) _⟩
   · obtain⟨I,rfl⟩: ∃I,j=I+1:=⟨j - 1,by omega⟩
     have pz:(1:Int)<=((I+1:Nat):Int):=by omega
     have qu:decide (((I+1:Nat):Int) < 1)=false:=decide_eq_false (by omega);have Ak:((I+1:Nat):Int)<=1000:=by omega
     by_cases w:valid sigT (conA (.mk m o kids) p)=true
     · rw[if_pos w] at a
       rw[a] at C;have mj:=(iF H w I).symm.trans J.out;generalize conA (.mk m o kids) p=X at C mj w;obtain⟨V,Z,y17⟩:=X;have xd:=hdq mj;have Dq:=hdq w;have Cz:((I+1:Nat):Int) - 1=(I:Int):=by omega
       clear a H w J mj;go_wp2_with fail;refine C.out.mono ?_;rintro e c ⟨r,rfl,g,f⟩;obtain⟨A2,c2,rfl,hl2,hc2,hK2⟩:=InT.mk_iff.1 g;have T:=hdq g;have l:Ext c (c.alloc (D0 V Z A2 y17.length c2)):=(xr c).alloc _;have fl:=f.blk mm;have u:=f.blk s;have HB:=hdq (l.blk fl);have Jy:=hdq (l.blk u);have Ez:=hdq (show d.heap.size+1 < c.heap.size by have:=f.size;omega);obtain⟨Q,P,M,o0,o1,o2⟩:=own3 (l.blk fl);have W:=hdq (fun(a0 G D:aU)=>(show InT ((((c.alloc (D0 V Z A2 y17.length c2)).setCell ⟨d.heap.size,0,none⟩ a0).setCell ⟨d.heap.size,1,none⟩ G).setCell ⟨d.heap.size,2,none⟩ D) (nf d) (.mk V Z y17) (m0 V Z A2 y17.length c2) from InT.ret (InT.mono (fun b E=>⟨E,E.1⟩) (fun _ _=> rfl) (T.out.later l)) a0 G D));clear g B y z mm s fl u hK2;go_wp2_with fail
       go_roundw
       case rel=> exact⟨I,V,Z,y17,A2,c2,by omega,by(try rw[Cz]);(try go_num),xd,Dq,hl2,hc2,W.out _ _ _,b6 (b6 (b6 HB.out 0 _) 1 _) 2 _,fe (fe (fe Jy.out (by simp) _) (by simp) _) (by simp) _,((((hx.trans f).trans l).setCell (by simp) _).setCell (by simp) _).setCell (by simp) _⟩
       case measure=>(simp[intOf];try omega)
     · rw[if_neg w] at a
       rw[a] at C;have U:=hdq ((jC H (Bool.eq_false_iff.2 w) I).symm.trans J.out);clear a H w J;go_wp2_with fail;refine C.out.mono ?_;rintro e c ⟨r,rfl,g,f⟩;obtain⟨G,D,K,O,L,rfl⟩:=g.three;have T:=hdq g;have Ez:=hdq (show d.heap.size+1 < c.heap.size by have:=f.size;omega);have S:d.heap.size < c.heap.size:=by have:=f.size;omega
       clear g B y z;have l:Ext c (c.alloc (D0 G D K O L)):=(xr c).alloc _;have u:=f.blk s;obtain⟨B,y,z,y0,y1,y2⟩:=own3 u;obtain⟨Q,P,M,o0,o1,o2⟩:=own3 (l.blk u);clear S;go_wp2_with fail;rw[<-U.out];refine aQ (v:= .tuple #[m0 0 0 none 0 0,j0 2]) (by simp[aS,results68,go_sem,B,y,z,Q,P,M]) rfl ⟨_,rfl,InT.lies' (Z5 _ (fun _=> True) 0 0),((((hx.trans f).trans l).setCell (by simp;try omega) _).setCell (by simp;try omega) _).setCell (by simp;try omega) _⟩
