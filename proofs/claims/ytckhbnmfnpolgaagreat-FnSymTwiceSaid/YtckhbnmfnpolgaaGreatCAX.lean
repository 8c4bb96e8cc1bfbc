/-
  Lemmas towards the law, 24: Norm, MNb, MInj, Up, L3Step.
-/
import Derived.Test.YtckhbnmfnpolgaaGreatC00
import Derived.Test.YtckhbnmfnpolgaaGreatCAW
open Go renaming World->aL,Value->aT,bodyPost_ret->aP,results->aR,heap_alloc_new->aS
open Go.RowKit.Below renaming heap_setCell->aM
open Nat renaming le_succ->aQ
open Go.Proofs.Tryz
set_option linter.all false
set_option maxHeartbeats 4000000
set_option maxRecDepth 100000
namespace Go.Proofs.YtckhbnmfnpolgaaGreat
open Go.RowKit
theorem cD{x:Tr}(h:outT x=none)(f:Nat):V4 f x=(x,0):=by
 cases f <;>(unfold V4;rw[h])
theorem jC{x:Tr}{p:List Int}(h:outT x=some p):V4 0 x=(j2,1):=by
 unfold V4;rw[h]
theorem uB{x:Tr}{p:List Int}(h:outT x=some p)(hv:j0 D0 (conA x p)=false)(f:Nat):V4 (f+1) x=(j2,2):=by
 rw[V4,h];simp only;rw[if_neg (by rw[hv];decide)]
theorem UC{x:Tr}{p:List Int}(h:outT x=some p)(hv:j0 D0 (conA x p)=true)(f:Nat):V4 (f+1) x=V4 f (conA x p):=by
 rw[V4,h];simp only;rw[if_pos hv]
theorem mI(t:Tr)(f:Int)(w:aL)(v:aT)(b8:Lies w t v):
 Calls prog 96 #[v,.int .i64 f,.func (.func 97) #[] #[]] w fun e w'=> ∃r s,e= .returned (.tuple #[r,.int .i64 s,.int .i64 (Me t f).2])/\W0 w w' 25 (Me t f).1 r/\Ext w w':=by
 have HV:=hdq (fun W (hW:Ext w W)=> ro t W v (b8.ext hW));have E:Me t f=if(j0 D0 t && db f 0 200)=true then V4 f.toNat t else(j2,3):=rfl
 rw[E];clear E;obtain⟨z,hz⟩: ∃z,j0 D0 t=z:=⟨_,rfl⟩;obtain⟨y,hy⟩: ∃y,db f 0 200=y:=⟨_,rfl⟩;rw[hz] at HV⊢;rw[hy];obtain⟨k,n,ks⟩:=t;obtain⟨A,cap,rfl,hl,hc,hK⟩:=Lies.mk_iff.1 b8;have m:=((xr w).alloc (.cells #[.int .i64 k,.int .i64 n,.slice A ks.length cap] 25)).alloc (.cells #[.int .i64 0,.int .i64 0,.slice none 0 0] 25);obtain⟨T,D,hs2⟩:=blk2 (xr ((w.alloc (.cells #[.int .i64 k,.int .i64 n,.slice A ks.length cap] 25)).alloc (.cells #[.int .i64 0,.int .i64 0,.slice none 0 0] 25)));obtain⟨wS,Q⟩: ∃x,x=(w.alloc (.cells #[.int .i64 k,.int .i64 n,.slice A ks.length cap] 25)).alloc (.cells #[.int .i64 0,.int .i64 0,.slice none 0 0] 25):=⟨_,rfl⟩;rw[<-Q] at m T D hs2;cases z with
 |false=>
  rw[if_neg (by simp)];go_enter func96,ntmps96;go_wp2_with fail;rw[<-Q];clear Q;refine(HV.out _ m).mono ?_;rintro e w1 ⟨rfl,J⟩;obtain⟨H,K,G,f0,f1,f2⟩:=own3 (J.blk D);go_wp2_with fail;refine aP (v:= .tuple #[.agg #[.int .i64 0,.int .i64 0,.slice none 0 0],.int .i64 0,.int .i64 3]) (by simp[aR,results96,go_sem,H,K,G]) rfl ⟨_,_,rfl,W0.leaf _ _ _ 0 0, ?_⟩;exact((((m.trans J).setCell (by simp) _).setCell (by simp) _).setCell (by simp) _)
 |true=>
  cases y with
  |false=>
   rw[if_neg (by simp)];go_enter func96,ntmps96;go_wp2_with fail;rw[<-Q];clear Q;refine(HV.out _ m).mono ?_;rintro e w1 ⟨rfl,J⟩;obtain⟨H,K,G,f0,f1,f2⟩:=own3 (J.blk D);go_wp2_with (go_at_call 51;refine(Ci _ _ _ _).mono ?_;rw[hy];rintro e C ⟨rfl,rfl⟩)
   refine aP (v:= .tuple #[.agg #[.int .i64 0,.int .i64 0,.slice none 0 0],.int .i64 0,.int .i64 3]) (by simp[aR,results96,go_sem,H,K,G]) rfl ⟨_,_,rfl,W0.leaf _ _ _ 0 0, ?_⟩;exact((((m.trans J).setCell (by simp) _).setCell (by simp) _).setCell (by simp) _)
  |true=>
   rw[if_pos (by simp)];obtain⟨gi,hf2⟩:=Pg.1 hy;obtain⟨F,rfl⟩:=Int.eq_ofNat_of_zero_le gi;rw[show((F:Int)).toNat=F from by omega];obtain⟨R,hR⟩: ∃R,V4 F (.mk k n ks)=R:=⟨_,rfl⟩;rw[hR];have HR:=hdq hR;have HY:=hdq hy;have HZ:=hdq hz;have HF:=hdq hf2;clear hy hR hz gi hf2;go_enter func96,ntmps96;go_wp2_with fail;rw[<-Q];clear Q;refine(HV.out _ m).mono ?_;rintro e w1 ⟨rfl,J⟩;have oh:=J.blk T;have o8:=J.blk D;have hx1:=m.trans J;go_wp2_with (go_at_call 51;refine(Ci _ _ _ _).mono ?_;rw[HY.out];rintro e C ⟨rfl,rfl⟩)
   clear HV m T D hs2 J b8 HY
   go_loopw [9] (fun i wr=> ∃(j:Nat) (d a:Int) (kids:List Tr) (A':Option Addr) (c':Nat),j<=F/\i= .int .i64 j/\
    Hid (V4 (F - j) (.mk d a kids)=R)/\Hid (j0 D0 (.mk d a kids)=true)/\kids.length<=c'/\c'<=maxLen/\InK wr (fun b=> b < wr.heap.size/\(b < w.heap.size\/w.heap.size+2<=b)) A' kids/\
    wr.heap[w.heap.size]? =some (.cells #[.int .i64 d,.int .i64 a,.slice A' kids.length c'] 25 (0,0))/\wr.heap[w.heap.size+1]? =some (.cells #[.int .i64 0,.int .i64 0,.slice none 0 0] 25 (0,0))/\Ext w wr) (fun i _=> F -(intOf i).toNat)
   case atStart=> exact⟨0,k,n,ks,A,cap,Nat.zero_le _,rfl,hdq HR.out,HZ,hl,hc,InK.mono (fun b l=>⟨Nat.lt_of_lt_of_le l hx1.size,.inl l⟩) (fun b l=> hx1.heap b l) hK,oh,o8,hx1⟩
   case round=>
    obtain⟨j,d,a,kids,A',c',hj,rfl,S,il,I5,I3,hT,l,F3,hx⟩:=hrel;have hsz:w.heap.size+1 < wr.heap.size:=O1 F3;have hL:Lies wr (.mk d a kids) (.agg #[.int .i64 d,.int .i64 a,.slice A' kids.length c']):=Lies.mk I5 I3 (InK.mono (fun b l=> l.1) (fun _ _=> rfl) hT);have HO:=dH (.mk d a kids) wr _ 30 (Ki il.out).2 hL (by decide);have HOW:=hdq (fun W (hW:Ext wr W)=> Qg (.mk d a kids) W _ (hL.ext hW) (by have:=(Ki il.out).1;omega));have vr:=hdq (fun p (hp:outT (.mk d a kids)=some p) W (hW:Ext wr W) B c (hP:Oi W B p.length c p)=> ZJ (.mk d a kids) p il.out (Fm _ p hp) W _ (hL.ext hW) B p.length c hP (by have:=ew _ 30 (Ki il.out).2 p hp;omega));rw[show wd (.mk d a kids)=(outT (.mk d a kids)).getD [] from rfl] at HO;have Y:=hdq HO;clear HO hT hK oh o8 hx1;obtain⟨z0,z1,z2,-,-,-⟩:=own3 l;obtain⟨q,hq⟩: ∃q,outT (.mk d a kids)=q:=⟨_,rfl⟩;rw[hq] at Y;cases q with
    |none=>
     have HE:=hdq (S.out.symm.trans (cD hq (F - j)));clear vr hq S;go_wp2_with fail;refine Y.out.mono ?_;rintro e V ⟨x,rfl,-,o⟩;obtain⟨y0,y1,y2,-,-,-⟩:=own3 (o.blk l);clear z0 z1 z2;go_wp2_with fail;refine(HOW.out _ o).mono ?_;rintro e C ⟨r,rfl,U,Z⟩;obtain⟨b1,b2,b3,b4,b5,rfl⟩:=U.three';have I:=o.trans Z;obtain⟨H,K,G,f0,f1,f2⟩:=own3 (I.blk F3);have hw4:w.heap.size+2<=V.heap.size:=by have:=o.size;omega
     clear y0 y1 y2;go_wp2_with fail;rw[HE.out];refine aP (v:= .tuple #[.agg #[.int .i64 b1,.int .i64 b2,.slice b3 b4 b5],.int .i64 j,.int .i64 0]) (by simp[aR,results96,go_sem,H,K,G]) rfl ⟨_,_,rfl,W0.since (U.after ((((ja.refl _ _).setCell (p:=⟨w.heap.size+1,0,none⟩) (by show w.heap.size+1 < _;omega) (.int .i64 b1)).setCell (p:=⟨w.heap.size+1,1,none⟩) (by show w.heap.size+1 < _;omega) (.int .i64 b2)).setCell (p:=⟨w.heap.size+1,2,none⟩) (by show w.heap.size+1 < _;omega) (.slice b3 b4 b5))) (by omega), ?_⟩;exact((((hx.trans I).setCell (by simp) _).setCell (by simp) _).setCell (by simp) _)
    |some p=>
     have P7:=hdq (vr.out p hq);simp only[Option.isSome_some,Option.getD_some] at Y;have HQ:=hdq hq;clear vr hq HOW;by_cases hjF:j=F
     · have HE:=hdq (S.out.symm.trans (show V4 (F - j) (.mk d a kids)=(j2,1) by rw[show F - j=0 by omega];exact jC HQ.out))
       clear P7 S;subst hjF;go_wp2_with fail;refine Y.out.mono ?_;rintro e V ⟨x,rfl,L,o⟩;obtain⟨B,c,rfl,hP⟩:=Bx L;obtain⟨H,K,G,f0,f1,f2⟩:=own3 (o.blk F3);clear z0 z1 z2 L;go_wp2_with fail;rw[HE.out];refine aP (v:= .tuple #[.agg #[.int .i64 0,.int .i64 0,.slice none 0 0],.int .i64 j,.int .i64 1]) (by simp[aR,results96,go_sem,H,K,G]) rfl ⟨_,_,rfl,W0.leaf _ _ _ 0 0, ?_⟩;exact((((hx.trans o).setCell (by simp) _).setCell (by simp) _).setCell (by simp) _)
     · have qi:((j:Int)==(F:Int))=false:=beq_eq_false_iff_ne.2 (by omega)
       have qd:(j==F)=false:=beq_eq_false_iff_ne.2 hjF;have hlt:j < F:=by omega
       have Co:(j:Int) < 200:=by have:=HF.out;omega
       have hj4:F<=200:=by have:=HF.out;omega
       obtain⟨g,hg⟩: ∃g,F - j=g+1:=⟨F - j - 1,by omega⟩;have O:F -(j+1)=g:=by omega
       have u:we (.mk d a kids) p=if j0 D0 (conA (.mk d a kids) p)=true then(conA (.mk d a kids) p,true) else(j2,false):=rfl
       have N:=S.out;rw[hg] at N;by_cases M:j0 D0 (conA (.mk d a kids) p)=true
       · rw[if_pos M] at u
         rw[UC HQ.out M,<-O] at N;rw[u] at P7;clear u S hg O;generalize conA (.mk d a kids) p=X at P7 N M;obtain⟨k2,n2,q17⟩:=X;have xc:=hdq N;have Cp:=hdq M;clear N M;go_wp2_with fail;refine Y.out.mono ?_;rintro e V ⟨x,rfl,L,o⟩;obtain⟨B,c,rfl,hP⟩:=Bx L;obtain⟨y0,y1,y2,-,-,-⟩:=own3 (o.blk l);clear z0 z1 z2 L;go_wp2_with fail;refine(P7.out _ o _ _ hP).mono ?_;rintro e C ⟨r,rfl,U,Z⟩;have Db:=Y1.made U;obtain⟨A2,c2,rfl,hl2,hc2,hK2⟩:=InT.mk_iff.1 Db;have I:=(o.trans Z).trans ((xr C).alloc (.cells #[.int .i64 k2,.int .i64 n2,.slice A2 q17.length c2] 25));obtain⟨H,K,G,f0,f1,f2⟩:=own3 (I.blk l);have Eh:=I.blk l;have ya:=I.blk F3;have Gf:wr.heap.size<=V.heap.size:=o.size;have Hm:V.heap.size<=C.heap.size:=Z.size;have KEEP:=hdq (fun(a0 a1 a2:aT) (b:Nat) (l:b < C.heap.size) (P:b≠w.heap.size)=>(show((((C.alloc (.cells #[.int .i64 k2,.int .i64 n2,.slice A2 q17.length c2] 25)).setCell ⟨w.heap.size,0,none⟩ a0).setCell ⟨w.heap.size,1,none⟩ a1).setCell ⟨w.heap.size,2,none⟩ a2).heap[b]? =C.heap[b]?from by
          rw[aM _ _ _ _ P,aM _ _ _ _ P,aM _ _ _ _ P];exact((xr C).alloc _).heap b l))
         clear y0 y1 y2 l F3 U Db;go_wp2_with fail
         go_roundw
         case rel=> exact⟨j+1,k2,n2,q17,A2,c2,hlt,by go_num,xc,Cp,hl2,hc2,InK.mono (fun b l=>⟨by simp;omega,.inr (by omega)⟩) (fun b l=> KEEP.out _ _ _ b l.2 (by omega)) hK2,N5 (N5 (N5 Eh 0 _) 1 _) 2 _,Bd (Bd (Bd ya (by simp) _) (by simp) _) (by simp) _,(((hx.trans I).setCell (by simp) _).setCell (by simp) _).setCell (by simp) _⟩
         case measure=> simp[intOf];omega
       · rw[if_neg M] at u
         rw[uB HQ.out (Bool.eq_false_iff.2 M)] at N;rw[u] at P7;have HE:=hdq N.symm;clear u S hg O M N;go_wp2_with fail;refine Y.out.mono ?_;rintro e V ⟨x,rfl,L,o⟩;obtain⟨B,c,rfl,hP⟩:=Bx L;obtain⟨y0,y1,y2,-,-,-⟩:=own3 (o.blk l);clear z0 z1 z2 L;go_wp2_with fail;refine(P7.out _ o _ _ hP).mono ?_;rintro e C ⟨r,rfl,U,Z⟩;obtain⟨b1,b2,b3,b4,b5,rfl⟩:=U.three';have I:=(o.trans Z).trans ((xr C).alloc (.cells #[.int .i64 b1,.int .i64 b2,.slice b3 b4 b5] 25));obtain⟨H,K,G,f0,f1,f2⟩:=own3 (I.blk F3);clear y0 y1 y2;go_wp2_with fail;rw[HE.out];refine aP (v:= .tuple #[.agg #[.int .i64 0,.int .i64 0,.slice none 0 0],.int .i64 j,.int .i64 2]) (by simp[aR,results96,go_sem,H,K,G]) rfl ⟨_,_,rfl,W0.leaf _ _ _ 0 0, ?_⟩;exact((((hx.trans I).setCell (by simp) _).setCell (by simp) _).setCell (by simp) _)
theorem lK(t:Tr)(f:Int)(w:aL)(v:aT)(C:Lies w t v):
 Calls prog 52 #[v,m0 f] w fun e B=> ∃r,e= .returned (.tuple #[r,m0 (Me t f).2])/\W0 w B 25 (Me t f).1 r/\Ext w B:=by
 have y:=hdq (fun W (G:Ext w W)=> mI t f W v (C.ext G));obtain⟨S,hS⟩: ∃S,Me t f=S:=⟨_,rfl⟩;rw[hS] at y⊢;obtain⟨k,n,o⟩:=t;obtain⟨A,cap,rfl,hl,hc,hK⟩:=Lies.mk_iff.1 C;clear hS;have a:=((xr w).alloc (H0 k n A o.length cap)).alloc (H0 0 0 none 0 0);obtain⟨l,b,m⟩:=blk2 (xr ((w.alloc (H0 k n A o.length cap)).alloc (H0 0 0 none 0 0)));obtain⟨E,q⟩: ∃x,x=(w.alloc (H0 k n A o.length cap)).alloc (H0 0 0 none 0 0):=⟨_,rfl⟩;rw[<-q] at a l b m;go_enter func52,ntmps52;go_wp2_with fail;rw[<-q];clear q;refine(y.out _ a).mono ?_;rintro e u ⟨r,s,rfl,z,F⟩;obtain⟨g,d,j,i,c,rfl⟩:=z.three';have D:=F.trans ((xr u).alloc (H0 g d j i c));obtain⟨J,L,I,O,N,M⟩:=own3 (D.blk b);have H:=z.ext ((xr u).alloc (H0 g d j i c));have K:w.heap.size+2<=E.heap.size:=by omega
 go_wp2_with fail;refine aP (v:= .tuple #[M0 g d j i c,m0 S.2]) (by simp[aR,results52,go_sem,J,L,I]) rfl ⟨_,rfl,W0.since (H.after ((((ja.refl _ _).setCell (p:=⟨w.heap.size+1,0,none⟩) (by show w.heap.size+1 < _;omega) (m0 g)).setCell (p:=⟨w.heap.size+1,1,none⟩) (by show w.heap.size+1 < _;omega) (m0 d)).setCell (p:=⟨w.heap.size+1,2,none⟩) (by show w.heap.size+1 < _;omega) (.slice j i c))) (by omega), ?_⟩;exact((((a.trans D).setCell (by simp) _).setCell (by simp) _).setCell (by simp) _)
end Go.Proofs.YtckhbnmfnpolgaaGreat
namespace Go.Proofs.YtckhbnmfnpolgaaGreat
open Go.RowKit
open M (Hd HR Cv Ty Lim Wb y6 U4)
def Nb(x:An):Prop:= ∀s c,x=some (s,c)->c=0\/c=2
theorem Nb.thn{x:An}{f:Tr->An}(h:Nb x)(k: ∀s,x=some (s,0)->Nb (f s)):Nb (thn x f):=by
 intro s c e;rcases Ao e with⟨u,a,b⟩ |⟨u,g,a,b,d⟩
 · exact k u a s c b
 · simp only[Prod.mk.injEq] at d
   obtain⟨-,rfl⟩:=d;exact h u _ a
theorem Nb.one{y:Tr×Int}(h:y.2=0\/y.2=2):Nb (some y):=by
 intro s c e;simp only[Option.some.injEq] at e;subst e;exact h
theorem Nb.ok(u:Tr):Nb (some (u,0)):=Nb.one (.inl rfl)
theorem Nb.mk(t:Tr):Nb (some (mkV t)):=Nb.one (by unfold mkV;split <;> simp)
theorem Nb.shp{F c:M.Tm}{kind:Int}(r:HR F c)(hc:M.hk c≠0)(hk:(enc c).kind=kind):Nb (some (i4 (enc F) kind)):=by
 refine Nb.one ?_;unfold i4
 split
 · simp
 · rename_i a
   have b:W6 (enc F) 200=((W6 (enc F) 200).1,0):=by
    have d:(W6 (enc F) 200).2=0:=by simpa using a
    rw[<-d]
   obtain⟨B,e,f,hs,-⟩:=wi b;rw[Qq f hs r hc] at e;rw[e,if_neg (by rw[hk];simp)];simp
theorem Nb.frm{x:An}{kind:Int}(h:Nb x)(k: ∀s,x=some (s,0)-> ∃F c,s=enc F/\HR F c/\M.hk c≠0/\(enc c).kind=kind):Nb (X0 x kind):=
 h.thn fun s e=> by
  obtain⟨F,c,rfl,r,hc,hk⟩:=k s e;exact Nb.shp r hc hk
theorem Nb.chk{x y:An}{W:M.Tm}(h:Nb x)(k: ∀s,x=some (s,0)-> ∃X,s=enc X/\Cv X W)(b:Nb y):Nb (W3 x (enc W) y):=
 h.thn fun s e=> by
  obtain⟨X,rfl,c⟩:=k s e
  split
  · exact b
  · rename_i a
    exact Nb.one (.inr ((Rk c).resolve_left a))
theorem Nb.fam{x y:An}{T:M.Tm}(h:Nb x)(k: ∀s,x=some (s,0)-> ∃F C D j,s=enc F/\HR F (.pi C D)/\Cv C T/\HR D (.sort j))(b:Nb y):Nb (v9 x (enc T) y):=by
 have i:Nb (X0 x 3):=h.frm fun s e=> by
  obtain⟨F,C,D,j,rfl,r,-,-⟩:=k s e;exact⟨F,.pi C D,rfl,r,by simp[M.hk],rfl⟩
 refine i.thn fun s e=> ?_
 obtain⟨u,l,f,m⟩:=We e;obtain⟨F,C,D,j,rfl,r,a,c⟩:=k u l;obtain⟨B,rfl,d,hs,-⟩:=wi f;obtain rfl:=Qq d hs r (by simp[M.hk])
 split
 · exact(Nb.shp (F:=D) c (by simp[M.hk]) rfl).thn fun _ _=> b
 · rename_i g
   exact Nb.one (.inr ((Rk (A:=C) a).resolve_left g))
theorem Mg{f:Nat}{G:List M.Tm}{t A:M.Tm}{s:Tr}(hG:O6 G)(hv:j0 D0 (enc t)=true)(h:Ty G t A)(e:S0 f (ctxE G) (enc t)=some (s,0)):s=enc A/\j0 D0 (enc A)=true:=by
 obtain⟨B,rfl,a,-,v⟩:=snd f G t s hG hv e;obtain rfl:=a.det h;exact⟨rfl,v⟩
theorem Pt{f:Nat}{G:List M.Tm}{k:Int}{A t:M.Tm}(hk:E4 k 1=1)(h:Nb (S0 f (ctxE (A::G)) (enc t))):Nb (da (S0 f) (ctxE G) k [enc A,enc t] 1):=by
 rw[Yn _ _ hk]
 split
 · exact Nb.one (.inr rfl)
 · rw[show ctxE G++ [kd [enc A,enc t] 0]=ctxE (A::G) from(yd A G).symm]
   exact h
theorem GC{f:Nat}{G:List M.Tm}{k:Int}{A t:M.Tm}{s:Tr}(hk:E4 k 1=1)(h:da (S0 f) (ctxE G) k [enc A,enc t] 1=some (s,0)):S0 f (ctxE (A::G)) (enc t)=some (s,0):=by
 have:=(Wr hk h).2
 rwa [show ctxE G++ [kd [enc A,enc t] 0]=ctxE (A::G) from(yd A G).symm] at this
theorem Fk: ∀(f:Nat) (G:List M.Tm) (t A:M.Tm),O6 G->j0 D0 (enc t)=true->Ty G t A->Lim G t->Nb (S0 f (ctxE G) (enc t))
 |0,G,t,A,hG,hv,h,hl=> by intro s c e;cases e
 |f+1,G,t,A,hG,hv,h,hl=> by
  have ih:=Fk f G;have H:=Fk f;have I: ∀{X S:M.Tm} {i:Nat},Ty G X S->HR S (.sort i)->Lim G X->y6 G X:=fun{X S i} d l m=>⟨m,i,M.lev_le (Lim.type d hG.wf m) l,S,d,l⟩
  have lev: ∀{X S:M.Tm} {i:Nat},j0 D0 (enc X)=true->Ty G X S->HR S (.sort i)->Lim G X->Nb (X0 (S0 f (ctxE G) (enc X)) 2):=fun{X S i} v d l m=>
   (ih X S hG v d m).frm fun s e=>⟨S,.sort i,(Mg hG v d e).1,l,by simp[M.hk],rfl⟩
  have chk: ∀{X S W:M.Tm} {y:An},j0 D0 (enc X)=true->Ty G X S->Cv S W->Lim G X->Nb y->Nb (W3 (S0 f (ctxE G) (enc X)) (enc W) y):=fun{X S W y} v d l m V=>
   (ih X S hG v d m).chk (fun s e=>⟨S,(Mg hG v d e).1,l⟩) V
  have fam: ∀{X F C D T:M.Tm} {j:Nat} {y:An},j0 D0 (enc X)=true->Ty G X F->HR F (.pi C D)->Cv C T->HR D (.sort j)->Lim G X->Nb y->Nb (v9 (S0 f (ctxE G) (enc X)) (enc T) y):=fun{X F C D T j y} v d l m q u V=>
   (ih X F hG v d u).fam (fun s e=>⟨F,C,D,j,(Mg hG v d e).1,l,m,q⟩) V
  cases h with
  | @var _ n A h=>
   have hn:=M.lk_lt h
   show Nb (some (ji (ctxE G) (n:Int)))
   rw[nA hn];exact Nb.mk _
  | @sort _ n=>
   have hn:n < 3:=hl;have e:S0 (f+1) (ctxE G) (enc (.sort n))=some (if(n:Int)=3 then(j2,(1:Int)) else(m6 ((n:Int)+1),0)):=by simp[enc,S0,Ub]
   rw[e,if_neg (by omega)];exact Nb.ok _
  |nat=> exact Nb.ok (m6 0)
  |zero=> exact Nb.ok n5
  | @succ _ a X d l=> exact chk (W:= .nat) (J1 hv (by simp)) d l hl (Nb.ok n5)
  | @pi _ A B S x i k d l m q=>
   have r:=hG.cons (I d l hl.1) (J1 hv (by simp));exact(lev (J1 hv (by simp)) d l hl.1).thn fun s _=>((Pt rfl (H _ B x r (J1 hv (by simp)) m hl.2)).frm fun s e=>⟨x,.sort k,(Mg r (J1 hv (by simp)) m (GC rfl e)).1,q,by simp[M.hk],rfl⟩).thn fun _ _=> Nb.ok _
  | @sg _ A B S x i k d l m q=>
   have r:=hG.cons (I d l hl.1) (J1 hv (by simp));exact(lev (J1 hv (by simp)) d l hl.1).thn fun s _=>((Pt rfl (H _ B x r (J1 hv (by simp)) m hl.2)).frm fun s e=>⟨x,.sort k,(Mg r (J1 hv (by simp)) m (GC rfl e)).1,q,by simp[M.hk],rfl⟩).thn fun _ _=> Nb.ok _
  | @lam _ A t B S i d l m=>
   have bA:=I d l hl.1;have r:=hG.cons bA (J1 hv (by simp));refine(lev (J1 hv (by simp)) d l hl.1).thn fun s _=>(Pt rfl (H _ t B r (J1 hv (by simp)) m hl.2.1)).thn fun b e=> ?_
   obtain⟨rfl,vB⟩:=Mg r (J1 hv (by simp)) m (GC rfl e);refine(Nb.mk (.mk 3 0 [enc A,enc B])).thn fun o eo=> ?_
   obtain⟨v,rfl⟩:=Xf eo;obtain⟨k,lk⟩:=m.corr r.wf.wf;have hk:=hl.2.2 B k m lk;have lB:Lim (A::G) B:=by
    rcases Lim.type m r.wf hl.2.1 with rfl|b
    · have:=lk.det (U4.sort _ 3)
      omega
    · exact b.1
   obtain⟨x,N,O⟩:=lk;exact(ih (.pi A B) _ hG v (.pi d l N O) ⟨hl.1,lB⟩).thn fun _ _=> Nb.ok _
  | @app _ g a F X C R d l m q=>
   refine((ih g F hG (J1 hv (by simp)) d hl.1).frm fun s e=>⟨F,.pi C R,(Mg hG (J1 hv (by simp)) d e).1,l,by simp[M.hk],rfl⟩).thn fun s e=> ?_
   obtain⟨F',C',R',rfl,tF,rF,-,-,-⟩:=Wk (snd f) hG (J1 hv (by simp)) e;obtain rfl:=tF.det d;obtain⟨rfl,rfl⟩:=rF.pi_det l;exact chk (W:=C') (J1 hv (by simp)) m q hl.2 (Nb.mk _)
  | @elim _ p z s a F Z S X C D k d l m q u J L h8 h9 Q=>
   refine fam (T:= .nat) (J1 hv (by simp)) d l m q hl.1 ((Nb.mk (.mk 5 0 [enc p,.mk 7 0 []])).thn fun w K=> ?_);obtain⟨v,rfl⟩:=Xf K;refine chk (W:= .app p .zero) (J1 hv (by simp)) u J hl.2.1 ((Nb.mk (Sb (enc p))).thn fun w K=> ?_);obtain⟨v,rfl⟩:=Xf K;rw[aq];exact chk (J1 hv (by simp)) L h8 hl.2.2.1 (chk (W:= .nat) (J1 hv (by simp)) h9 Q hl.2.2.2 (Nb.mk _))
  | @id _ T a b S X Y i d l m q u J=>
   exact(lev (J1 hv (by simp)) d l hl.1).thn fun s _=> chk (J1 hv (by simp)) m q hl.2.1 (chk (J1 hv (by simp)) u J hl.2.2 (Nb.ok _))
  | @refl _ a X d=>
   refine(ih a X hG (J1 hv (by simp)) d hl.1).thn fun s e=> ?_
   obtain⟨rfl,vX⟩:=Mg hG (J1 hv (by simp)) d e;obtain⟨k,lk⟩:=d.corr hG.wf.wf;have hk:=hl.2 X k d lk;have lX:Lim G X:=by
    rcases Lim.type d hG.wf hl.1 with rfl|b
    · have:=lk.det (U4.sort _ 3)
      omega
    · exact b.1
   obtain⟨x,N,O⟩:=lk;exact(lev vX N O lX).thn fun _ _=> Nb.mk _
  | @move _ p e a E T b c F T' D k X d l m q u J L h8=>
   refine((ih e E hG (J1 hv (by simp)) d hl.2.1).frm fun s P=>⟨E,.id T b c,(Mg hG (J1 hv (by simp)) d P).1,l,by simp[M.hk],rfl⟩).thn fun s P=> ?_
   obtain⟨E',U,b',c',rfl,tE,rE,-,-,-,-⟩:=Qn (snd f) hG (J1 hv (by simp)) P;obtain rfl:=tE.det d;obtain⟨rfl,rfl,rfl⟩:=rE.id_det l;refine fam (T:=U) (J1 hv (by simp)) m q u J hl.1 ((Nb.mk (.mk 5 0 [enc p,enc b'])).thn fun w K=> ?_);obtain⟨v,rfl⟩:=Xf K;exact chk (W:= .app p b') (J1 hv (by simp)) L h8 hl.2.2 (Nb.mk _)
  | @pair _ T a b S i C D X Y d l m q u J L=>
   refine(lev (J1 hv (by simp)) d l hl.1).thn fun s _=>(Nb.shp (F:=A) m (by simp[M.hk]) rfl).thn fun s e=> ?_
   have e1:i4 (enc A) 13=(s,0):=Option.some.inj e;obtain⟨e2,e3⟩:=ry (t:=enc A) (kind:=13) (by rw[e1]);rw[e1] at e2 e3;obtain⟨B,rfl,rB,hs,-⟩:=wi e2;obtain rfl:=Qq rB hs m (by simp[M.hk]);refine chk (W:=C) (J1 hv (by simp)) q u hl.2.1 ((Nb.mk _).thn fun w K=> ?_);obtain⟨v,rfl⟩:=Xf K;rw[show Z0 (kd [enc A,enc a,enc b] 1) (kd (enc (.sg C D)).kids 1) 0 0=enc (D.inst a) from tm D a];exact chk (J1 hv (by simp)) J L hl.2.2 (Nb.ok _)
  | @fst _ a X C D d l=> exact((ih a X hG (J1 hv (by simp)) d hl).frm fun s e=>⟨X,.sg A D,(Mg hG (J1 hv (by simp)) d e).1,l,by simp[M.hk],rfl⟩).thn fun _ _=> Nb.ok _
  | @snd _ a X C D d l=> exact((ih a X hG (J1 hv (by simp)) d hl).frm fun s e=>⟨X,.sg C D,(Mg hG (J1 hv (by simp)) d e).1,l,by simp[M.hk],rfl⟩).thn fun _ _=> Nb.mk _
end Go.Proofs.YtckhbnmfnpolgaaGreat
namespace Go.Proofs.YtckhbnmfnpolgaaGreat
theorem py{G D:List M.Tm}(h:ctxE G=ctxE D):G=D:=by
 unfold ctxE at h;have h:=List.reverse_inj.1 h
 induction G generalizing D with
 |nil=> cases D with
  |nil=> rfl
  |cons a D=> cases h
 |cons a G ih=> cases D with
  |nil=> cases h
  |cons b D=>
   simp only[List.map_cons,List.cons.injEq] at h;rw[Md h.1,ih (by rw[h.2]) h.2]
end Go.Proofs.YtckhbnmfnpolgaaGreat
namespace Go.Proofs.YtckhbnmfnpolgaaGreat
open Go Go.RowKit
attribute [local go_sem ↓] Go.wp_at_zero Go.wp_at_succ
theorem el(t:Tr)(hv:j0 D0 t=true)(a:aL)(v:aT)(D:Lies a t v)(g:Nat)(z:Bool)(r:a.heap[g]? =some (.cells #[.bool z] 4 (0,0))):Calls prog 57 #[v,.pointer (some ⟨g,0,none⟩)] a fun e A=> ∃u,e= .returned u/\InT A (fun b=> a.heap.size<=b) (okT (shfT 1 t 0)) u/\D1 [g] a A/\A.heap[g]? =some (.cells #[.bool (z && j0 D0 (shfT 1 t 0))] 4 (0,0)):=by
 have q:=hdq (fun W (I:Ext a W)=> Yy t 1 0 W v (D.ext I) hv (by omega) (by omega) (by omega) (by omega));have J:=O1 r;generalize okT (shfT 1 t 0)=T at q⊢;generalize j0 D0 (shfT 1 t 0)=y at q⊢;obtain⟨k,n,M⟩:=t;obtain⟨At,ct,rfl,-⟩:=Lies.mk_iff.1 D;clear D hv;go_enter func57,ntmps57;go_wp2_with fail;generalize E:World.alloc (World.alloc a _) _=F;obtain⟨L,br,U,w⟩:=box2 E.symm;clear E L;refine(q.out F w).mono ?_;rintro e j ⟨u,rfl,s,G⟩;replace s:=s.at' (N:=fun b=> F.heap.size<=b) fun b h=> h
 obtain⟨_,_,_,_,_,rfl⟩:=s.three;have e:=w.trans G;have c:=fun o=> U1 ((e.alloc o).blk r) 0
 have Q:=fun o=> ib ((e.alloc o).blk r) 0
 have R:=G.blk br;have S:=O1 R;have P: ¬g=j.heap.size:=by omega
 have m: ¬g=a.heap.size+1:=by omega
 clear br q;have H:=fun o x=> cbn ((aM (j.alloc o) ⟨g,0,none⟩ x (a.heap.size+1) (fun h=> m h.symm)).trans (((xr j).alloc o).blk R))
 have O: ∀o x f i d,D1 [g] a ((((j.alloc o).setCell ⟨g,0,none⟩ x).setCell ⟨a.heap.size+1,0,none⟩ f).setCell ⟨a.heap.size+1,1,none⟩ i|>.setCell ⟨a.heap.size+1,2,none⟩ d):=fun o x f i d=>
  (((((oE (e.alloc o)).setCell (p:=⟨g,0,none⟩) (List.mem_singleton.2 rfl) x)).setNew (aQ _) _).setNew (aQ _) _).setNew (aQ _) _
 have B: ∀o x f i d,((((j.alloc o).setCell ⟨g,0,none⟩ x).setCell ⟨a.heap.size+1,0,none⟩ f).setCell ⟨a.heap.size+1,1,none⟩ i|>.setCell ⟨a.heap.size+1,2,none⟩ d).heap[g]? =some (.cells #[x] 4 (0,0)):=fun o x f i d=> by
  rw[aM _ _ _ _ m,aM _ _ _ _ m,aM _ _ _ _ m];exact N5 ((e.alloc o).blk r) 0 x
 have T: ∀o x f i d,InT ((((j.alloc o).setCell ⟨g,0,none⟩ x).setCell ⟨a.heap.size+1,0,none⟩ f).setCell ⟨a.heap.size+1,1,none⟩ i|>.setCell ⟨a.heap.size+1,2,none⟩ d) (fun b=> a.heap.size<=b) _ _:=fun o x f i d=> InT.mono (fun b l=> Nat.le_trans w.size l.1) (fun b l=> by
  have K: ¬b=g:=by have:=l.1;have:=w.size;omega
  have C: ¬b=a.heap.size+1:=by have:=l.1;omega
  rw[aM _ _ _ _ C,aM _ _ _ _ C,aM _ _ _ _ C,aM _ _ _ _ K];exact((xr j).alloc o).heap b l.2) s.bound
 cases z
 · go_wp2_with fail
   exact aP (by simp[aR,results57,go_sem,H]) rfl ⟨_,rfl,T _ _ _ _ _,O _ _ _ _ _,B _ _ _ _ _⟩
 · go_wp2_with fail
   exact aP (by simp[aR,results57,go_sem,H]) rfl ⟨_,rfl,T _ _ _ _ _,O _ _ _ _ _,B _ _ _ _ _⟩
end Go.Proofs.YtckhbnmfnpolgaaGreat
namespace Go.Proofs.YtckhbnmfnpolgaaGreat
open Go.RowKit
attribute [local go_sem ↓] Go.wp_at_zero Go.wp_at_succ
def Zd(t:Tr):Tr×Bool:=match outT t with
 |none=>(t,false)
 |some p=>(conA t p,true)
theorem jn{a:List Tr}{j:Nat}(h:j < a.length):kd a j=a[j]:=by unfold kd;rw[List.getD_eq_getElem?_getD,List.getElem?_eq_getElem h];rfl
theorem LH{a:List Tr}{j:Nat}(h:j < a.length):Mc j (a.drop j)=match outT (kd a j) with
 |some p=> some ((j:Int)::p)
 |none=> Mc (j+1) (a.drop (j+1)):=by
 rw[List.drop_eq_getElem_cons h,Mc,jn h];cases outT a[j] <;> rfl
theorem xH{a:List Tr}{j:Nat}(h:a.length<=j):Mc j (a.drop j)=none:=by
 rw[List.drop_of_length_le h,Mc]
theorem nz{k n:Int}{a:List Tr}{t:Tr}(h:j0 D0 (.mk k n a)=true)(hm:t∈a):j0 D0 t=true:=by
 obtain⟨d,b⟩:=Z3 h;have c:=(Z4 d).2.2.2 t hm;unfold j0;rw[Px c (by omega),Bool.true_and,decide_eq_true_eq];have:=k9 hm;simp only[cnt] at b;omega
def pB(N:Nat->Prop)(w:aL)(o:Tr×Bool)(e:Ending)(a:aL):Prop:= ∃r,e= .returned (.tuple #[r,.bool o.2])/\InT a N o.1 r/\Ext w a
def CG(t:Tr):Prop:=j0 D0 t=true-> ∀(w:aL) (N:Nat->Prop) (v:aT),(∀b,w.heap.size<=b->N b)->InT w N t v->Calls prog 152 #[v,.bool false] w (pB N w (Zd t))
theorem vG: ∀t:Tr,CG t:=Tr.ind fun k n c ih=> by
 intro hv F N v hN V;obtain⟨R,L⟩: ∃R,Zd (.mk k n c)=R:=⟨_,rfl⟩;rw[L];obtain⟨hsh,C0⟩:=Z3 hv;have O:=V.lies';have N8:=hdq V;have Q:=hdq (fun W (hx:Ext F W)=> Cr (.mk k n c) 30 hsh W v (O.ext hx));have lp:Y3 (.mk k n c)=rdx k c:=rfl;rw[lp] at Q;obtain⟨A,cap,rfl,hl,hc,hK⟩:=InT.mk_iff.1 V;have hcc:=hc;unfold maxLen at hcc;have hlc:=Lf c;simp only[cnt] at C0;obtain⟨w1,J⟩: ∃x,x=((F.alloc (.cells #[.int .i64 k,.int .i64 n,.slice A c.length cap] 25)).alloc (.cells #[.int .i64 0,.int .i64 0,.slice none 0 0] 25)):=⟨_,rfl⟩;obtain⟨C,z,s1,D⟩:=box2 J;obtain⟨M,Y⟩: ∃M,M=(fun b=> N b/\b≠F.heap.size+1):=⟨_,rfl⟩;have zm: ∀b,w1.heap.size<=b->M b:=by rw[Y];exact Ia hN D.size (by omega)
 have Bz:InK w1 M A c:=by rw[Y];exact hK.keep D (aQ _)
 have O3:=hdq zm;have wo:=hdq Bz;have HM:=hdq Y;clear Y zm Bz hK V lp;by_cases hr:rdx k c=0
 · have d:outT (.mk k n c)=Mc 0 c:=by rw[outT,if_pos hr]
   have hk:=fun t (ht:t∈c)=> ih t ht (nz hv ht)
   have Gz:=hdq hk;have Ld:=hdq d;have W9:=hdq L;have Hv:=hdq O;rw[hr] at Q;clear ih hk d L hv hr O hsh;go_enter func152,ntmps152;go_wp2_with fail;rw[<-J];clear J;refine(Q.out _ D).mono ?_;rintro e w2 ⟨rfl,s⟩;have s2:=s.size;have w:=s;have u:=cb3 (w.blk C);have f:=m9 (w.blk z);go_wp2_with fail;clear u f
   go_loopw [6] (fun i wr=> ∃j:Nat,j<=c.length/\i= .int .i64 j/\Ext w2 wr/\Hid (outT (.mk k n c)=Mc j (c.drop j))) (fun i _=> c.length -(intOf i).toNat)
   case atStart=> exact⟨0,Nat.zero_le _,rfl,xr _,hdq (by rw[Ld.out];rfl)⟩
   case round=>
    obtain⟨j,hj,rfl,l,HJ⟩:=hrel;generalize wr=w3 at l;have s3:=l.size;by_cases g:j < c.length
    · have uk:(j:Int) <(c.length:Int):=by omega
      have m:=w.trans l;obtain⟨b,o,G,E,A1,p1,q16,rfl,E6,c0,c1,c2,l1,m1,M6,p5,j9,ug⟩:=(wo.out.later m).get (fun _ _=> rfl) g;have HI:=hdq (Gz.out _ j9 w3 M _ (fun b y=> O3.out b (Nat.le_trans m.size y)) p5);obtain⟨⟨t',ok⟩,hT⟩: ∃x,Zd (.mk G E q16)=x:=⟨_,rfl⟩;rw[hT] at HI;have HT:=hdq hT;have Dw:IntKind.i64.wrap ((j:Int)+1)=(j:Int)+1:=IntWalk.i64_in _ ⟨by omega,by omega⟩;clear hT M6 p5;have u:=cb3 (m.blk C);have f:=m9 (m.blk z);go_wp2_with fail;clear u f;refine(HI.out).mono ?_;rintro e P ⟨r,rfl,vx,Z⟩;have s4:=Z.size;obtain⟨a1,a2,a3,a4,a5,rfl⟩:=vx.three;have ye:=hdq vx;clear vx;have a:=HJ.out.trans (LH g);rw[jn g,E6.out] at a;cases ok with
      |false=>
       have T6:=l;have pw:=T6.trans Z;have hn:outT (.mk G E q16)=none:=by
        have:=HT.out;unfold Zd at this;cases hq:outT (.mk G E q16) with
        |none=> rfl
        |some p=> rw[hq] at this;simp at this
       rw[hn] at a;have HST:=hdq a;clear a hn;go_wp2_with fail
       go_roundw
       case rel=> exact⟨j+1,by omega,by go_num,pw.alloc _,HST⟩
       case measure=> simp[intOf];omega
      |true=>
       obtain⟨p,hp,Ig⟩: ∃p,outT (.mk G E q16)=some p/\conA (.mk G E q16) p=t':=by
        have:=HT.out;unfold Zd at this;cases hq:outT (.mk G E q16) with
        |none=> rw[hq] at this;simp at this
        |some p=> rw[hq] at this;simp only[Prod.mk.injEq,and_true] at this;exact⟨p,rfl,this⟩
       rw[hp] at a;have Kj:=Fm _ p hp;rw[<-E6.out,<-jn g] at Kj Ig;have B:R=(.mk k n (c.set j t'),true):=by
        rw[<-W9.out];unfold Zd;rw[a];simp only;rw[Yv g Kj,Ig]
       have HF:=hdq B;clear a B Kj Ig hp Dw;have o9:=m.trans Z;have u:=cb3 (o9.blk C);have f:=m9 (o9.blk z);obtain⟨S,X⟩: ∃x,x=P.alloc (.cells #[.int .i64 a1,.int .i64 a2,.slice a3 a4 a5] 25):=⟨_,rfl⟩;have e5:Ext P S:=X▸(xr P).alloc _;have eu:=aS P (.cells #[.int .i64 a1,.int .i64 a2,.slice a3 a4 a5] 25);rw[<-X] at eu;have s5:P.heap.size < S.heap.size:=O1 eu;go_wp2_with fail;rw[<-X];clear X;clear u f;have K:=D;have I:=K.trans s;have H:=I.trans l;have s8:=H.trans Z;have K9:=s8.trans e5;have V3:=e5;refine(SH k n c t' j (fun b=> M b/\b < S.heap.size) S _ _ (Hv.out.ext K9) (fun b y=> y.2) ((ye.out.later V3).bound) g (by simp only[cnt];omega)).mono ?_;rintro e w6 ⟨r,rfl,zo,U⟩;have s6:=U.size;have E7:=o9.trans e5;have yf:InT w6 M (.mk k n (c.set j t')) r:=InT.mono (fun b y=> by
        rcases y with y|y
        · exact y.1
        · exact O3.out b (by have:=E7.size;omega)) (fun _ _=> rfl) zo
       obtain⟨u1,u2,u3,u4,u5,rfl⟩:=yf.three;have Iy:=hdq yf;clear zo yf;have bv:=E7.trans U;have u:=cb3 (bv.blk C);have f:=m9 (bv.blk z);have et:=U;have Zx:=cb3 (et.blk eu);have gf:=K9.trans U;go_wp2_with fail;rw[HF.out];refine aP (v:= .tuple #[.agg #[.int .i64 u1,.int .i64 u2,.slice u3 u4 u5],.bool true]) (by simp[aR,results152,go_sem,f]) rfl ⟨_,rfl,InT.ret (HM.out▸Iy.out) _ _ _,(gf.set3 (by omega) _ _ _)⟩
    · have d:outT (.mk k n c)=none:=HJ.out.trans (xH (by omega))
      have B:R=(.mk k n c,false):=by
       rw[<-W9.out];unfold Zd;rw[d]
      have HF:=hdq B;clear d B;have Hg:=s.blk C;have Kh:=s.blk z;have bt_3:=l.blk Hg;have br_3:=l.blk Kh;have K:=D;have I:=K.trans s;have H:=I.trans l;have w:=s;have m:=w.trans l;have u:=cb3 (m.blk C);have f:=m9 (m.blk z);go_wp2_with fail;rw[HF.out];refine aP (v:= .tuple #[.agg #[.int .i64 k,.int .i64 n,.slice A c.length cap],.bool false]) (by simp[aR,results152,go_sem,f]) rfl ⟨_,rfl,InT.ret (InT.keep N8.out H (show F.heap.size<=F.heap.size+1 from aQ _)) _ _ _,(H.set3 (by omega) _ _ _)⟩
 · have hz:(rdx k c !=0)=true:=by simp[hr]
   have B:R=(ctrT (.mk k n c),true):=by
    rw[<-L];unfold Zd;rw[outT,if_neg hr];simp only;rw[Xs]
   have HC:=hdq (fun W (hx:Ext F W)=> QJ (.mk k n c) hv (Xv.2 hr) W _ (O.ext hx));rw[B];generalize rdx k c=q at Q hz;generalize ctrT (.mk k n c)=T at HC⊢;clear ih L hv hr O hsh B;go_enter func152,ntmps152;go_wp2_with fail;rw[<-J];clear J;refine(Q.out _ D).mono ?_;rintro e w2 ⟨rfl,s⟩;have s2:=s.size;have w:=s;have u:=cb3 (w.blk C);have f:=m9 (w.blk z);go_wp2_with fail;clear u f;have K:=D;have I:=K.trans s;refine(HC.out _ I).mono ?_;rintro e w3 ⟨r,rfl,hT,l⟩;have s3:=l.size;have lg:InT w3 M T r:=InT.mono (fun b y=> O3.out b (by have:=w.size;omega)) (fun _ _=> rfl) hT;obtain⟨u1,u2,u3,u4,u5,rfl⟩:=lg.three;have Lt:=hdq lg;clear hT lg;have m:=w.trans l;have u:=cb3 (m.blk C);have f:=m9 (m.blk z);have H:=I.trans l;go_wp2_with fail;refine aP (v:= .tuple #[.agg #[.int .i64 u1,.int .i64 u2,.slice u3 u4 u5],.bool true]) (by simp[aR,results152,go_sem,f]) rfl ⟨_,rfl,InT.ret (HM.out▸Lt.out) _ _ _,(H.set3 (by omega) _ _ _)⟩
theorem SI(t:Tr)(hv:j0 D0 t=true)(F:aL)(N:Nat->Prop)(v:aT)(hN: ∀b,F.heap.size<=b->N b)(b8:InT F N t v):Calls prog 111 #[v,.bool false] F (q8 N F (gk t)):=by
 have D:=hdq (fun W (M:Nat->Prop) (K: ∀b,W.heap.size<=b->M b) (h:InT W M t v)=> vG t hv W M v K h);have HC:=hdq (fun W (hx:Ext F W)=> Ur t W v (b8.lies'.ext hx) (by have:=(Z3 hv).2;omega));have N8:=hdq b8;have P:gk t=match outT t with|none=>(t,0) |some p=> if j0 D0 (conA t p)=true then(conA t p,1) else(j2,2):=rfl
 unfold Zd at D;rw[P];clear P;generalize outT t=q at D⊢;obtain⟨k,n,R⟩:=t;obtain⟨A,cap,rfl,hl,hc,hK⟩:=InT.mk_iff.1 b8;clear b8 hK hv;obtain⟨X,G⟩: ∃x,x=((F.alloc (H0 k n A R.length cap)).alloc (H0 0 0 none 0 0)):=⟨_,rfl⟩;obtain⟨L,H,s1,Z⟩:=box2 G;obtain⟨M,K⟩: ∃M,M=(fun b=> N b/\b≠F.heap.size+1):=⟨_,rfl⟩;have O3:=hdq (show∀b,X.heap.size<=b->M b by rw[K];exact Ia hN Z.size (by omega));have Jx:=hdq (show InT X M _ _ by rw[K];exact N8.out.keep Z (aQ _));have HM:=hdq K;clear K hN;cases q with
 |none=>
  simp only at D⊢;go_enter func111,ntmps111;go_wp2_with fail;rw[<-G];clear G;refine(D.out X M O3.out Jx.out).mono ?_;rintro e c ⟨r,rfl,hT,l⟩;have s2:=l.size;obtain⟨B,o,s,u,w,rfl⟩:=hT.three;clear hT;have j:=l;have C:=cb3 (j.blk L);have g:=m9 (j.blk H);obtain⟨f,a⟩: ∃x,x=c.alloc (H0 B o s u w):=⟨_,rfl⟩;have m:Ext c f:=a▸(xr c).alloc _;have i:=aS c (H0 B o s u w);rw[<-a] at i;have s3:c.heap.size < f.heap.size:=O1 i;go_wp2_with fail;rw[<-a];clear a;clear C g;have Q:=Z;have V:=Q.trans l;have J:=V.trans m;have I:=j.trans m;refine(HC.out f J).mono ?_;rintro e w4 ⟨u1,u2,u3,u4,u5,z,y,rfl,hT,d,O,hy⟩;have s4:=d.size;have ye:=hdq (show InT w4 M _ _ from InT.mono (fun b hb=> O3.out b (by have:=I.size;omega)) (fun _ _=> rfl) hT);clear hT O hy;have E:=I.trans d;have C:=cb3 (E.blk L);have g:=m9 (E.blk H);have Y:=d;have Zx:=cb3 (Y.blk i);have S:=J.trans d;go_wp2_with fail;refine aP (v:= .tuple #[M0 u1 u2 u3 u4 u5,m0 0]) (by simp[aR,results111,go_sem,g]) rfl ⟨_,rfl,InT.ret (HM.out▸ye.out) _ _ _,(S.set3 (by omega) _ _ _)⟩
 |some p=>
  simp only at D⊢;obtain⟨z,O⟩: ∃z,j0 D0 (conA (.mk k n R) p)=z:=⟨_,rfl⟩;rw[O];have HV:=hdq (fun W v (h:Lies W (conA (.mk k n R) p) v)=> O▸li (conA (.mk k n R) p) W v h);generalize conA (.mk k n R) p=T at D HV⊢;clear O;cases z with
  |false=>
   rw[if_neg (by simp)];go_enter func111,ntmps111;go_wp2_with fail;rw[<-G];clear G;refine(D.out X M O3.out Jx.out).mono ?_;rintro e c ⟨r,rfl,hT,l⟩;have s2:=l.size;obtain⟨B,o,s,u,w,rfl⟩:=hT.three;have HT:=hdq hT;clear hT;have j:=l;have C:=cb3 (j.blk L);have g:=m9 (j.blk H);obtain⟨f,a⟩: ∃x,x=c.alloc (H0 B o s u w):=⟨_,rfl⟩;have m:Ext c f:=a▸(xr c).alloc _;have i:=aS c (H0 B o s u w);rw[<-a] at i;have s3:c.heap.size < f.heap.size:=O1 i;go_wp2_with fail;rw[<-a];clear a;clear C g;have U:=m;refine(HV.out f _ (HT.out.later U).lies').mono ?_;rintro e w4 ⟨rfl,d⟩;have s4:=d.size;have pw:=U.trans d;have I:=j.trans m;have E:=I.trans d;have C:=cb3 (E.blk L);have g:=m9 (E.blk H);have Y:=d;have Zx:=cb3 (Y.blk i);have Q:=Z;have V:=Q.trans l;have J:=V.trans m;have S:=J.trans d;go_wp2_with fail;refine aP (v:= .tuple #[M0 0 0 none 0 0,m0 2]) (by simp[aR,results111,go_sem,g]) rfl ⟨_,rfl,d5 _ _ 0 0,(S.set3 (by omega) _ _ _)⟩
  |true=>
   rw[if_pos rfl];go_enter func111,ntmps111;go_wp2_with fail;rw[<-G];clear G;refine(D.out X M O3.out Jx.out).mono ?_;rintro e c ⟨r,rfl,hT,l⟩;have s2:=l.size;obtain⟨B,o,s,u,w,rfl⟩:=hT.three;have HT:=hdq hT;clear hT;have j:=l;have C:=cb3 (j.blk L);have g:=m9 (j.blk H);obtain⟨f,a⟩: ∃x,x=c.alloc (H0 B o s u w):=⟨_,rfl⟩;have m:Ext c f:=a▸(xr c).alloc _;have i:=aS c (H0 B o s u w);rw[<-a] at i;have s3:c.heap.size < f.heap.size:=O1 i;go_wp2_with fail;rw[<-a];clear a;clear C g;have U:=m;refine(HV.out f _ (HT.out.later U).lies').mono ?_;rintro e w4 ⟨rfl,d⟩;have s4:=d.size;have pw:=U.trans d;have I:=j.trans m;have E:=I.trans d;have C:=cb3 (E.blk L);have g:=m9 (E.blk H);have Y:=d;have Zx:=cb3 (Y.blk i);have Q:=Z;have V:=Q.trans l;have J:=V.trans m;have S:=J.trans d;go_wp2_with fail;refine aP (v:= .tuple #[M0 B o s u w,m0 1]) (by simp[aR,results111,go_sem,g]) rfl ⟨_,rfl,InT.ret (HM.out▸HT.out.later pw) _ _ _,(S.set3 (by omega) _ _ _)⟩
def pe(a:aL)(b:Nat):Prop:=b≠a.heap.size/\b≠a.heap.size+1
theorem Uy(t:Tr)(F:Nat)(hF:F<=200)(hv:j0 D0 t=true)(d:aL)(v:aT)(b8:Lies d t v):
 Calls prog 68 #[v,.int .i64 F,.bool false] d fun e w'=> ∃r,e= .returned (.tuple #[r,.int .i64 (V4 F t).2])/\Lies w' (V4 F t).1 r/\Ext d w':=by
 obtain⟨R,hR⟩: ∃R,V4 F t=R:=⟨_,rfl⟩;rw[hR];obtain⟨k,n,ks⟩:=t;obtain⟨A,cap,rfl,hl,hc,hK⟩:=Lies.mk_iff.1 b8;obtain⟨w1,d9⟩: ∃x,x=((d.alloc (.cells #[.int .i64 k,.int .i64 n,.slice A ks.length cap] 25)).alloc (.cells #[.int .i64 0,.int .i64 0,.slice none 0 0] 25)):=⟨_,rfl⟩;obtain⟨j5,i7,s1,e1⟩:=box2 d9;have Bc:InT w1 (pe d) (.mk k n ks) (.agg #[.int .i64 k,.int .i64 n,.slice A ks.length cap]):=InT.mono (fun b E=>⟨by have:b < d.heap.size:=E;omega,by have:b < d.heap.size:=E;omega⟩) (fun b E=> e1.heap b E) b8;have HR:=hdq hR;have il:=hdq hv;clear hR hv b8 hK;go_enter func68,ntmps68;go_wp2_with fail;rw[<-d9];clear d9
 go_loopw [1] (fun i wr=> ∃(j:Nat) (o m:Int) (kids:List Tr) (A':Option Addr) (V:Nat),j<=F/\i= .int .i64 j/\Hid (V4 j (.mk o m kids)=R)/\Hid (j0 D0 (.mk o m kids)=true)/\kids.length<=V/\V<=maxLen/\InT wr (pe d) (.mk o m kids) (.agg #[.int .i64 o,.int .i64 m,.slice A' kids.length V])/\
  wr.heap[d.heap.size]? =some (.cells #[.int .i64 o,.int .i64 m,.slice A' kids.length V] 25 (0,0))/\wr.heap[d.heap.size+1]? =some (.cells #[.int .i64 0,.int .i64 0,.slice none 0 0] 25 (0,0))/\Ext d wr) (fun i _=>(intOf i).toNat)
 case atStart=> exact⟨F,k,n,ks,A,cap,Nat.le_refl _,rfl,HR,il,hl,hc,Bc,j5,i7,e1⟩
 case round=>
  obtain⟨j,o,m,kids,A',V,hj,rfl,K,HV,I5,I3,hT,ma,s,hx⟩:=hrel;have hsz:d.heap.size+1 < wr.heap.size:=O1 s;have D:=hdq (SI (.mk o m kids) HV.out wr (pe d) _ (fun b E=>⟨by omega,by omega⟩) hT);have a:gk (.mk o m kids)=match outT (.mk o m kids) with|none=>(.mk o m kids,0) |some p=> if j0 D0 (conA (.mk o m kids) p)=true then(conA (.mk o m kids) p,1) else(j2,2):=rfl
  obtain⟨w,z,B,-,-,-⟩:=own3 ma;clear hT Bc j5 i7 e1 s1;obtain⟨q,I⟩: ∃q,outT (.mk o m kids)=q:=⟨_,rfl⟩;rw[I] at a;cases q with
  |none=>
   simp only at a;rw[a] at D;have U:=hdq ((cD I j).symm.trans K.out);clear a I;go_wp2_with fail;refine D.out.mono ?_;rintro e c ⟨r,rfl,g,f⟩;obtain⟨G,C,J,M,P,rfl⟩:=g.three;have T:=hdq g;have Fe:=hdq (show d.heap.size+1 < c.heap.size by have:=f.size;omega);have S:d.heap.size < c.heap.size:=by have:=f.size;omega
   clear g w z B;have l:Ext c (c.alloc (.cells #[.int .i64 G,.int .i64 C,.slice J M P] 25)):=(xr c).alloc _;have u:=f.blk s;obtain⟨w,z,B,y0,y1,y2⟩:=own3 u;obtain⟨Q,L,O,o0,o1,o2⟩:=own3 (l.blk u);clear S;go_wp2_with fail;rw[<-U.out];refine aP (v:= .tuple #[.agg #[.int .i64 G,.int .i64 C,.slice J M P],.int .i64 0]) (by simp[aR,results68,go_sem,w,z,B,Q,L,O]) rfl ⟨_,rfl,InT.lies' (InT.ret (N:=fun _=> True) (InT.mono (fun b E=>⟨trivial,E.2⟩) (fun b E=> rfl) (T.out.later l)) _ _ _),((((hx.trans f).trans l).setCell (by simp;try omega) _).setCell (by simp;try omega) _).setCell (by simp;try omega) _⟩
  |some p=>
   simp only at a;by_cases kq:j=0
   · have U:=hdq ((show V4 j (.mk o m kids)=(j2,1) by rw[kq];exact jC I).symm.trans K.out)
     subst kq;by_cases y:j0 D0 (conA (.mk o m kids) p)=true
     · rw[if_pos y] at a
       rw[a] at D;clear a I y K;go_wp2_with fail;refine D.out.mono ?_;rintro e c ⟨r,rfl,g,f⟩;obtain⟨G,C,J,M,P,rfl⟩:=g.three;have T:=hdq g;have Fe:=hdq (show d.heap.size+1 < c.heap.size by have:=f.size;omega);have S:d.heap.size < c.heap.size:=by have:=f.size;omega
       clear g w z B;have l:Ext c (c.alloc (.cells #[.int .i64 G,.int .i64 C,.slice J M P] 25)):=(xr c).alloc _;have u:=f.blk s;obtain⟨w,z,B,y0,y1,y2⟩:=own3 u;obtain⟨Q,L,O,o0,o1,o2⟩:=own3 (l.blk u);clear S;go_wp2_with fail;rw[<-U.out];refine aP (v:= .tuple #[.agg #[.int .i64 0,.int .i64 0,.slice none 0 0],.int .i64 1]) (by simp[aR,results68,go_sem,w,z,B,Q,L,O]) rfl ⟨_,rfl,InT.lies' (d5 _ (fun _=> True) 0 0),((((hx.trans f).trans l).setCell (by simp;try omega) _).setCell (by simp;try omega) _).setCell (by simp;try omega) _⟩
     · rw[if_neg y] at a
       rw[a] at D;clear a I y K;go_wp2_with fail;refine D.out.mono ?_;rintro e c ⟨r,rfl,g,f⟩;obtain⟨G,C,J,M,P,rfl⟩:=g.three;have T:=hdq g;have Fe:=hdq (show d.heap.size+1 < c.heap.size by have:=f.size;omega);have S:d.heap.size < c.heap.size:=by have:=f.size;omega
       clear g w z B;have l:Ext c (c.alloc (.cells #[.int .i64 G,.int .i64 C,.slice J M P] 25)):=(xr c).alloc _;have u:=f.blk s;obtain⟨w,z,B,y0,y1,y2⟩:=own3 u;obtain⟨Q,L,O,o0,o1,o2⟩:=own3 (l.blk u);clear S;go_wp2_with fail;rw[<-U.out];refine aP (v:= .tuple #[.agg #[.int .i64 0,.int .i64 0,.slice none 0 0],.int .i64 1]) (by simp[aR,results68,go_sem,w,z,B,Q,L,O]) rfl ⟨_,rfl,InT.lies' (d5 _ (fun _=> True) 0 0),((((hx.trans f).trans l).setCell (by simp;try omega) _).setCell (by simp;try omega) _).setCell (by simp;try omega) _⟩
   · obtain⟨H,rfl⟩: ∃H,j=H+1:=⟨j - 1,by omega⟩
     have qi:(1:Int)<=((H+1:Nat):Int):=by omega
     have qd:decide (((H+1:Nat):Int) < 1)=false:=decide_eq_false (by omega);have Co:((H+1:Nat):Int)<=1000:=by omega
     by_cases y:j0 D0 (conA (.mk o m kids) p)=true
     · rw[if_pos y] at a
       rw[a] at D;have nk:=(UC I y H).symm.trans K.out;generalize conA (.mk o m kids) p=X at D nk y;obtain⟨Y,W,q17⟩:=X;have xc:=hdq nk;have Cp:=hdq y;have Dw:((H+1:Nat):Int) - 1=(H:Int):=by omega
       clear a I y K nk;go_wp2_with fail;refine D.out.mono ?_;rintro e c ⟨r,rfl,g,f⟩;obtain⟨A2,c2,rfl,hl2,hc2,hK2⟩:=InT.mk_iff.1 g;have T:=hdq g;have l:Ext c (c.alloc (.cells #[.int .i64 Y,.int .i64 W,.slice A2 q17.length c2] 25)):=(xr c).alloc _;have ep:=f.blk ma;have u:=f.blk s;have HB:=hdq (l.blk ep);have Kg:=hdq (l.blk u);have Fe:=hdq (show d.heap.size+1 < c.heap.size by have:=f.size;omega);obtain⟨Q,L,O,o0,o1,o2⟩:=own3 (l.blk ep);have Z:=hdq (fun(a0 G C:aT)=>(show InT ((((c.alloc (.cells #[.int .i64 Y,.int .i64 W,.slice A2 q17.length c2] 25)).setCell ⟨d.heap.size,0,none⟩ a0).setCell ⟨d.heap.size,1,none⟩ G).setCell ⟨d.heap.size,2,none⟩ C) (pe d) (.mk Y W q17) (.agg #[.int .i64 Y,.int .i64 W,.slice A2 q17.length c2]) from InT.ret (InT.mono (fun b E=>⟨E,E.1⟩) (fun _ _=> rfl) (T.out.later l)) a0 G C));clear g w z B ma s ep u hK2;go_wp2_with fail
       go_roundw
       case rel=> exact⟨H,Y,W,q17,A2,c2,by omega,by(try rw[Dw]);(try go_num),xc,Cp,hl2,hc2,Z.out _ _ _,N5 (N5 (N5 HB.out 0 _) 1 _) 2 _,Bd (Bd (Bd Kg.out (by simp) _) (by simp) _) (by simp) _,((((hx.trans f).trans l).setCell (by simp) _).setCell (by simp) _).setCell (by simp) _⟩
       case measure=>(simp[intOf];try omega)
     · rw[if_neg y] at a
       rw[a] at D;have U:=hdq ((uB I (Bool.eq_false_iff.2 y) H).symm.trans K.out);clear a I y K;go_wp2_with fail;refine D.out.mono ?_;rintro e c ⟨r,rfl,g,f⟩;obtain⟨G,C,J,M,P,rfl⟩:=g.three;have T:=hdq g;have Fe:=hdq (show d.heap.size+1 < c.heap.size by have:=f.size;omega);have S:d.heap.size < c.heap.size:=by have:=f.size;omega
       clear g w z B;have l:Ext c (c.alloc (.cells #[.int .i64 G,.int .i64 C,.slice J M P] 25)):=(xr c).alloc _;have u:=f.blk s;obtain⟨w,z,B,y0,y1,y2⟩:=own3 u;obtain⟨Q,L,O,o0,o1,o2⟩:=own3 (l.blk u);clear S;go_wp2_with fail;rw[<-U.out];refine aP (v:= .tuple #[.agg #[.int .i64 0,.int .i64 0,.slice none 0 0],.int .i64 2]) (by simp[aR,results68,go_sem,w,z,B,Q,L,O]) rfl ⟨_,rfl,InT.lies' (d5 _ (fun _=> True) 0 0),((((hx.trans f).trans l).setCell (by simp;try omega) _).setCell (by simp;try omega) _).setCell (by simp;try omega) _⟩
