/-
  Lemmas towards the law, 31: SInfA, InfH, MVal.
-/
import Derived.Test.YtckhbnmfnpolgaaGreatC00
import Derived.Test.YtckhbnmfnpolgaaGreatCBD
open Go renaming World->aL,Calls->aX,results->aR,wpAnyH_done->bP,maxLen->aV
open Go.World renaming alloc->aO
open Option.some renaming inj->bY
open Nat renaming le_succ->aQ
open Go.IntWalk renaming i64_in->eL
open Bool renaming true_and->bT,and_true->dU,and_eq_true->aW
open Go.Proofs.Tryz
set_option linter.all false
set_option maxHeartbeats 8000000
set_option maxRecDepth 100000
namespace Go.Proofs.YtckhbnmfnpolgaaGreat
open Go Go.RowKit
attribute [local go_sem ↓] Go.wp_at_zero Go.wp_at_succ
theorem wv{f:Nat}(B:a9 f){G:List Tr}{A:Option Addr}{ca:Nat}(b:aL)(N:Nat->Prop)(j:SJ b N A G ca)(t:Tr)(v:Value)(hT:InT b N t v)(r:Tr×Int)(h:X0 (Q0 f G t) 2=some r):aX prog 128 #[.slice A G.length ca,v] b fun e y=> e= .returned (.tuple #[m0 r.1.num,m0 r.2])/\Ext b y:=by
 have p:=hdq hT;obtain⟨k,n,I⟩:=t;obtain⟨At,ct,rfl,-⟩:=InT.mk_iff.1 hT;clear hT;obtain⟨s,c,i,o,l⟩:=a7 h;clear h;go_enter func128,ntmps128;go_wp2_with fail;generalize a:aO b _=K;obtain⟨m,X⟩:=nb a;have Q:=cb3 m;clear a;refine(B _ _ _ i.out _ _ A ca _ (j.ext X) (p.out.later X)).mono ?_;rintro e x ⟨u,rfl,hT,e⟩;obtain⟨_,_,_,_,_,rfl⟩:=hT.three;replace X:=X.trans e;clear Q m;simp only;obtain⟨g,t⟩ |rfl:=cz c
 · obtain rfl:=l.out g.out
   go_wp2_with fail;go_ret2;exact⟨rfl,X.alloc _⟩
 obtain⟨D,L,J,d,w,C,q,F⟩:=Rp (bY (o.out rfl));clear i o l;go_wp2_with fail;generalize a:aO x _=H;obtain⟨z,e⟩:=nb a;clear a;refine(Si w.out _ _ (j.ext (X.trans e)).hN _ (hT.later e).lies').mono ?_;rintro M R ⟨O,P,rfl,-,-,E⟩;replace X:=(X.trans e).trans E;clear hT e z;simp only;obtain⟨g,t⟩ |rfl:=cz d
 · obtain rfl:=C.out g.out
   go_wp2_with fail;go_ret2;exact⟨rfl,X.alloc _⟩
 obtain⟨g,t⟩ |rfl:=czk D 2
 · obtain rfl:=q.out (by trivial) g.out
   go_wp2_with fail;go_ret2;exact⟨rfl,X.alloc _⟩
 obtain rfl:=F.out (by trivial) (by trivial);go_wp2_with fail;go_ret2;exact⟨rfl,X.alloc _⟩
theorem vE{f:Nat}(J:a9 f){G:List Tr}{A:Option Addr}{ca:Nat}(i:aL)(N:Nat->Prop)(q:SJ i N A G ca)(t:Tr)(v:Value)(hT:InT i N t v)(kind:Int)(r:Tr×Int)(h:X0 (Q0 f G t) kind=some r):aX prog 188 #[.slice A G.length ca,v,m0 kind] i (q8 N i r):=by
 have E:=hdq hT;obtain⟨k,n,K⟩:=t;obtain⟨At,ct,rfl,-⟩:=InT.mk_iff.1 hT;clear hT;obtain⟨s,c,p,C,x⟩:=a7 h;clear h;go_enter func188,ntmps188;go_wp2_with fail;generalize g:aO (aO i _) _=I;obtain⟨a,br,S⟩:=ie g.symm q;have F:=hdq (S);have X:=xr I;have Q:=F.out _ X.off;clear S q g;refine(J _ _ _ p.out _ _ A ca _ Q.1 (E.out.keep (a.trans X) (aQ _))).mono ?_;rintro e H ⟨u,rfl,hT,e⟩;replace X:=X.trans e;replace Q:=F.out _ X.off;obtain⟨_,_,_,_,_,rfl⟩:=hT.three;simp only;obtain⟨j,t⟩ |rfl:=cz c
 · have R:=cbn (X.blk br)
   have b:=fun o=> cbn ((X.alloc o).blk br)
   go_wp2_with fail;exact D9 (by simp[aR,results188,go_sem,R,b]) (x.out j.out) (((a.trans X).alloc _).set3 (aQ _) _ _ _) rfl
 obtain⟨z,M,L,d,m,y,l,B⟩:=Rp (bY (C.out rfl));clear p C x;go_wp2_with fail;generalize g:aO H _=D;obtain⟨w,e⟩:=nb g;replace F:=hdq (both (rb F.out (X.trans e)) (both (m7 w (X.ne br)) (hT.up e)));replace X:=X.trans e;replace br:=X.blk br;replace a:=a.trans X;replace X:=xr D;replace Q:=F.out _ X.off;clear g w e;clear hT;refine(Si m.out _ _ Q.1.1.hN _ Q.2.2.lies').mono ?_;rintro e T ⟨O,P,rfl,hK,-,e⟩;replace X:=X.trans e;replace Q:=F.out _ X.off;simp only;obtain⟨j,t⟩ |rfl:=cz d
 · have R:=cbn (X.blk br)
   have b:=fun o=> cbn ((X.alloc o).blk br)
   go_wp2_with fail;exact D9 (by simp[aR,results188,go_sem,R,b]) (y.out j.out) (((a.trans X).alloc _).set3 (aQ _) _ _ _) rfl
 obtain⟨j,t⟩ |hk:=czk z kind
 · have R:=cbn (X.blk br)
   have b:=fun o=> cbn ((X.alloc o).blk br)
   go_wp2_with fail;exact D9 (by simp[aR,results188,go_sem,R,b]) (l.out (by trivial) j.out) (((a.trans X).alloc _).set3 (aQ _) _ _ _) rfl
 have HR:=hdq (B.out (by trivial) hk);have t:=(show(z !=kind)=false by simp[hk]);clear m y l B hk;have R:=cbn (X.blk br);have b:=fun o=> cbn ((X.alloc o).blk br)
 go_wp2_with fail;exact R6 (by simp[aR,results188,go_sem,R,b]) (hK.later ((xr _).alloc _)) (HR.out) ((a.trans X).alloc _) (aQ _) rfl
theorem pH{x:An}{a:Tr}{c:Int}(h:pa x a=some c): ∃s d,x=some (s,d)/\(d=0->c=d4 s a)/\(d≠0->c=d):=by
 rcases Vt h with⟨s,rfl,b⟩ |⟨s,rfl,b⟩
 · exact⟨s,0,rfl,fun _=> b,fun h=> absurd rfl h⟩
 · exact⟨s,c,rfl,fun h=> absurd h b,fun _=> rfl⟩
theorem Ml{f:Nat}(E:a9 f){G:List Tr}{A:Option Addr}{ca:Nat}(b:aL)(N:Nat->Prop)(C:SJ b N A G ca)(t a:Tr)(v x:Value)(hT:InT b N t v)(i:Lies b a x)(c:Int)(h:pa (Q0 f G t) a=some c):aX prog 116 #[.slice A G.length ca,v,x] b fun e B=> e= .returned (m0 c)/\Ext b B:=by
 have y:=hdq hT;obtain⟨k,n,K⟩:=t;obtain⟨At,ct,rfl,-⟩:=InT.mk_iff.1 hT;have D:=hdq i;obtain⟨U,P,T⟩:=a;obtain⟨O,L,rfl,-⟩:=Lies.mk_iff.1 i;clear hT i;obtain⟨s,d,w,m,l⟩:=pH h;clear h;have o:=hdq w;clear w;have r:=hdq m;clear m;have p:=hdq l;clear l;go_enter func116,ntmps116;go_wp2_with fail;generalize g:aO (aO b _) _=R;obtain⟨q,I,-,X⟩:=box2 g.symm;have Q:=cb3 q;clear g;refine(E _ _ _ o.out _ _ A ca _ (C.ext X) (y.out.later X)).mono ?_;rintro e z ⟨u,rfl,hT,e⟩;obtain⟨_,_,_,_,_,rfl⟩:=hT.three;replace X:=X.trans e;replace Q:=cb3 (e.blk I);clear q;simp only;obtain⟨F,t⟩ |rfl:=cz d
 · obtain rfl:=p.out F.out
   go_wp2_with fail;go_ret;exact⟨rfl,X.alloc _⟩
 obtain rfl:=r.out rfl;clear o r p;go_wp2_with fail;generalize g:aO z _=J;obtain⟨M,j⟩:=nb g;clear g;refine(BB s _ _ _ _ (hT.later j).lies' (D.out.ext (X.trans j))).mono ?_;rintro S V ⟨rfl,H⟩;replace X:=(X.trans j).trans H;go_wp2_with fail;go_ret;exact⟨rfl,X⟩
theorem VJ{f:Nat}(HI:a9 f){G:List Tr}{A:Option Addr}{ca:Nat}(g:aL)(N:Nat->Prop)(D:SJ g N A G ca)(t T:Tr)(v U:Value)(hT:InT g N t v)(p:Lies g T U)(c:Int)(h:lf (Q0 f G t) T=some c):aX prog 189 #[.slice A G.length ca,v,U] g fun e w'=> e= .returned (m0 c)/\Ext g w':=by
 have HT:=hdq hT;obtain⟨k,n,ks⟩:=t;obtain⟨At,ct,rfl,-⟩:=InT.mk_iff.1 hT;have HW:=hdq p;obtain⟨P,L,M⟩:=T;obtain⟨Aw,cw,rfl,-⟩:=Lies.mk_iff.1 p;clear hT p;obtain⟨s,d,y,H,m⟩:=nB h;clear h;go_enter func189,ntmps189;go_wp2_with fail;generalize o:aO (aO g _) _=w1;obtain⟨b,br,S⟩:=uI o.symm D;have F:=hdq (S);have X:=xr w1;have Q:=F.out _ X.off;clear S D o;refine(vE HI _ _ Q.1 _ _ (HT.out.keep (b.trans X) (Nat.le_refl _)) 3 _ y.out).mono ?_;rintro e Z ⟨u,rfl,hT,e⟩;replace X:=X.trans e;replace Q:=F.out _ X.off;obtain⟨ka,na,j⟩:=s;obtain⟨A1,c1,rfl,-,-,hK⟩:=InT.mk_iff.1 hT;clear hT;simp only at hK⊢;obtain⟨i,t⟩ |rfl:=cz d
 · obtain rfl:=m.out i.out
   go_wp2_with fail;go_ret;exact⟨rfl,(b.trans X).alloc _⟩
 obtain⟨-,a,-⟩:=vp y.out;obtain⟨B,r⟩:=H.out rfl;simp only[Tr.kids] at a hK B r;have a:j.length=2:=by have:U0 3=2:=rfl;omega
 have m:=hdq B;have q:=hdq r;clear y H B r;obtain⟨b2,o2,rfl,z,⟨jm,jw,jq,jl,jk,J⟩,f11,f12,f13,f14,f15,I⟩:=q17 hK a;rw[a];clear hK a;go_wp2_with fail;generalize o:aO Z _=V;obtain⟨C,e⟩:=nb o;replace F:=hdq (both (rb F.out (X.trans e)) (both (m7 C (X.ne br)) (both (J.fm z e) (I.fm z e))));replace X:=X.trans e;replace br:=X.blk br;replace b:=b.trans X;replace X:=xr V;replace Q:=F.out _ X.off;clear o C e;clear J I z;have x:=hdq (fun W (p:Ext g W) v (hv:Lies W (kd j 0) v)=> BB (kd j 0) (.mk P L M) W _ _ hv (HW.out.ext p));generalize d4 (kd j 0) (.mk P L M)=cv at x m q;obtain⟨Y,nx,iv,dx,G1,R,O,E⟩:=Rp (s:=kd j 1) (kind:=2) rfl;generalize i4 (kd j 1) 2=sh at m R O E;refine rgn g.heap.size (by kernel_rfl) X ?_;replace X:=X.drew;refine O2 [0,1,2,3,4] 2 (by kernel_rfl) X.off (fun _ _ _ _ _ h=> h) ?_
 iterate 5 (refine tk rfl (by rfl) (by intro w X;have Q:=F.out _ X;go_simp;(try with_reducible rfl)) ?_;try simp only[N2])
 replace Q:=F.out _ X.off;refine O0 5 (by kernel_rfl) rfl rfl (fun K hK=> ?_)
 go_simp
 go_at_call 81
 refine(x.out _ (b.trans X) _ Q.2.2.1.l).mono ?_;rintro e w4 ⟨rfl,e⟩;replace X:=X.trans e;replace Q:=F.out _ X.off;refine hK.out _ _ X.off (fun _=> ?_);clear hK K;refine O2 [6] 0 (by kernel_rfl) X.off (fun _ _ _ _ _ h=> h) ?_;refine tk rfl (by rfl) (by intro w X;go_simp;(try with_reducible rfl)) ?_
 try simp only[N2]
 refine bP (by kernel_rfl) ?_ _;obtain⟨i,t⟩ |rfl:=cz cv
 · obtain rfl:=q.out i.out
   go_wp2_with fail;go_ret;exact⟨rfl,(b.trans X)⟩
 obtain rfl:=m.out (by trivial);clear m q x;go_wp2_with fail;refine(Si G1.out _ _ Q.1.1.hN _ Q.2.2.2.l).mono ?_;rintro e w5 ⟨A3,c3,rfl,-,-,e⟩;replace X:=X.trans e;replace Q:=F.out _ X.off;simp only;obtain⟨i,t⟩ |rfl:=cz dx
 · obtain rfl:=R.out i.out
   go_wp2_with fail;go_ret;exact⟨rfl,(b.trans X).alloc _⟩
 obtain⟨i,t⟩ |rfl:=czk Y 2
 · obtain rfl:=O.out (by trivial) i.out
   go_wp2_with fail;go_ret;exact⟨rfl,(b.trans X).alloc _⟩
 obtain rfl:=E.out (by trivial) (by trivial);go_wp2_with fail;go_ret;exact⟨rfl,(b.trans X).alloc _⟩
theorem gI(a b:Int)(w:aL):aX prog 187 #[m0 a,m0 b] w fun e c=> e= .returned (m0 (max a b))/\Ext w c:=by
 by_cases h:b < a
 · have d:decide (b < a)=true:=decide_eq_true h
   have e:max a b=a:=by omega
   rw[e];go_enter func187,ntmps187;go_wp2_with fail;go_ret;exact⟨rfl,xr _⟩
 · have d:decide (b < a)=false:=decide_eq_false h
   have e:max a b=b:=by omega
   rw[e];go_enter func187,ntmps187;go_wp2_with fail;go_ret;exact⟨rfl,xr _⟩
def LG(k:Int):Nat:=if k=3 then 142 else if k=13 then 142 else if k=4 then 143 else if k=9 then 147 else if k=10 then 148 else if k=12 then 149 else if k=14 then 150 else if k=15 then 151 else 151
theorem lo{s:aL}{i j:Nat}{A:Option Addr}{G:List Tr}{At:Option Addr}{d:List Tr}{ty:Nat->An}(k n:Int)(ca ct:Nat)(v:d.length<=ct)(z:ct<=aV)(b:aL)(N:Nat->Prop)(o:Mb s b N i j A G At d ty)(hk:k=3\/k=13\/k=4\/k=9\/k=10\/k=12\/k=14\/k=15\/k=16)(r:Tr×Int)(hc: ∀c,c=LG k-> ∀w M,Mb s w M i j A G At d ty->aX prog c #[.agg #[.slice A G.length ca,m0 k,m0 n,.slice At d.length ct,.func (.func 105) #[] #[.pointer (some ⟨i,0,none⟩),.pointer (some ⟨j,0,none⟩)]]] w (q8 M w r)):aX prog 107 #[.agg #[.slice A G.length ca,m0 k,m0 n,.slice At d.length ct,.func (.func 105) #[] #[.pointer (some ⟨i,0,none⟩),.pointer (some ⟨j,0,none⟩)]]] b (q8 N b r):=by
 have x:=hdq hc;clear hc;obtain rfl|rfl|rfl|rfl|rfl|rfl|rfl|rfl|rfl:=hk
 all_goals
  go_enter func107,ntmps107;go_wp2_with fail;generalize a:aO (aO b _) _=p;obtain⟨f,br,S⟩:=Ze a.symm o.hN;have l:=hdq (o.keep f (g:=b.heap.size+1) (aQ _) (O1 br));have q:p.heap.size=b.heap.size+1+1:=by rw[<-a];simp
  clear o;have F:=hdq (S);have X:=xr p;have Q:=F.out _ X.off;clear S a;generalize a:aO p _=t;obtain⟨m,e⟩:=nb a;rw[q] at m;clear q;replace F:=hdq (both (rb F.out (X.trans e)) (m7 m (by omega)));replace X:=X.trans e;replace l:=hdq (l.out.ext X);replace br:=X.blk br;replace f:=f.trans X;replace X:=xr t;replace Q:=F.out _ X.off;clear a m e;refine(x.out _ rfl _ _ (l.out.ext X)).mono ?_;rintro e y ⟨u,rfl,hT,e⟩;replace X:=X.trans e;replace Q:=F.out _ X.off;obtain⟨_,_,_,_,_,rfl⟩:=hT.three;have R:=cbn (X.blk br);go_wp2_with fail;exact R6 (by simp[aR,results107,go_sem,R]) (hT) (rfl) (f.trans X) (aQ _) rfl
theorem zG{t:aL}{m o:Nat}{A:Option Addr}{G:List Tr}{At:Option Addr}{d:List Tr}{ty:Nat->An}(n:Int)(ca ct:Nat)(s:d.length<=ct)(w:ct<=aV)(b:aL)(N:Nat->Prop)(i:Mb t b N m o A G At d ty)(x:0<=n)(v:n<=3)(r:Tr×Int)(h:some (if n=3 then(j2,1) else(m6 (n+1),0))=some r):aX prog 107 #[.agg #[.slice A G.length ca,m0 2,m0 n,.slice At d.length ct,.func (.func 105) #[] #[.pointer (some ⟨m,0,none⟩),.pointer (some ⟨o,0,none⟩)]]] b (q8 N b r):=by
 by_cases hn:n=3
 · obtain rfl:r=(j2,1):=by rw[if_pos hn] at h;simpa using h.symm
   have t1:(n==3)=true:=beq_iff_eq.2 hn;clear h hn;go_enter func107,ntmps107;go_wp2_with fail;exact D9 (by simp[aR,results107,go_sem,NJ]) rfl ((((xr _).alloc _).alloc _).alloc _) rfl
 obtain rfl:r=(m6 (n+1),0):=by rw[if_neg hn] at h;simpa using h.symm
 have t1:(n==3)=false:=beq_eq_false_iff_ne.2 hn;have q:IntKind.i64.wrap (n+1)=n+1:=eL _ ⟨by omega,by omega⟩;clear h hn;go_enter func107,ntmps107;go_wp2_with fail;generalize a:aO (aO b _) _=j;obtain⟨c,br,S⟩:=Ze a.symm i.hN;have l:=hdq (i.keep c (g:=b.heap.size+1) (aQ _) (O1 br));have k:j.heap.size=b.heap.size+1+1:=by rw[<-a];simp
 clear i;have F:=hdq (S);have X:=xr j;have Q:=F.out _ X.off;clear S a;generalize a:aO j _=p;obtain⟨f,e⟩:=nb a;rw[k] at f;clear k;replace F:=hdq (both (rb F.out (X.trans e)) (m7 f (by omega)));replace X:=X.trans e;replace l:=hdq (l.out.ext X);replace br:=X.blk br;replace c:=c.trans X;replace X:=xr p;replace Q:=F.out _ X.off;clear a f e;refine(ip (n+1) _).mono ?_;rintro e u ⟨rfl,e⟩;replace X:=X.trans e;replace Q:=F.out _ X.off;have R:=cbn (X.blk br);go_wp2_with fail;exact R6 (by simp[aR,results107,go_sem,R]) (d5 _ _ 2 (n+1)) (rfl) (c.trans X) (aQ _) rfl
theorem QG{s:aL}{o m:Nat}{A:Option Addr}{G:List Tr}{At:Option Addr}{d:List Tr}{ty:Nat->An}(n:Int)(ca ct:Nat)(q:d.length<=ct)(u:ct<=aV)(b:aL)(N:Nat->Prop)(i:Mb s b N o m A G At d ty)(r:Tr×Int)(h:some (m6 0,0)=some r):aX prog 107 #[.agg #[.slice A G.length ca,m0 6,m0 n,.slice At d.length ct,.func (.func 105) #[] #[.pointer (some ⟨o,0,none⟩),.pointer (some ⟨m,0,none⟩)]]] b (q8 N b r):=by
 obtain rfl:r=(m6 0,0):=by simpa using h.symm
 clear h;go_enter func107,ntmps107;go_wp2_with fail;generalize a:aO (aO b _) _=j;obtain⟨c,br,S⟩:=Ze a.symm i.hN;have l:=hdq (i.keep c (g:=b.heap.size+1) (aQ _) (O1 br));have k:j.heap.size=b.heap.size+1+1:=by rw[<-a];simp
 clear i;have F:=hdq (S);have X:=xr j;have Q:=F.out _ X.off;clear S a;generalize a:aO j _=p;obtain⟨f,e⟩:=nb a;rw[k] at f;clear k;replace F:=hdq (both (rb F.out (X.trans e)) (m7 f (by omega)));replace X:=X.trans e;replace l:=hdq (l.out.ext X);replace br:=X.blk br;replace c:=c.trans X;replace X:=xr p;replace Q:=F.out _ X.off;clear a f e;refine(ip 0 _).mono ?_;rintro e t ⟨rfl,e⟩;replace X:=X.trans e;replace Q:=F.out _ X.off;have R:=cbn (X.blk br);go_wp2_with fail;exact R6 (by simp[aR,results107,go_sem,R]) (d5 _ _ 2 0) (rfl) (c.trans X) (aQ _) rfl
theorem jI{s:aL}{o m:Nat}{A:Option Addr}{G:List Tr}{At:Option Addr}{d:List Tr}{ty:Nat->An}(n:Int)(ca ct:Nat)(q:d.length<=ct)(u:ct<=aV)(b:aL)(N:Nat->Prop)(i:Mb s b N o m A G At d ty)(r:Tr×Int)(h:some (n5,0)=some r):aX prog 107 #[.agg #[.slice A G.length ca,m0 7,m0 n,.slice At d.length ct,.func (.func 105) #[] #[.pointer (some ⟨o,0,none⟩),.pointer (some ⟨m,0,none⟩)]]] b (q8 N b r):=by
 obtain rfl:r=(n5,0):=by simpa using h.symm
 clear h;go_enter func107,ntmps107;go_wp2_with fail;generalize a:aO (aO b _) _=j;obtain⟨c,br,S⟩:=Ze a.symm i.hN;have l:=hdq (i.keep c (g:=b.heap.size+1) (aQ _) (O1 br));have k:j.heap.size=b.heap.size+1+1:=by rw[<-a];simp
 clear i;have F:=hdq (S);have X:=xr j;have Q:=F.out _ X.off;clear S a;generalize a:aO j _=p;obtain⟨f,e⟩:=nb a;rw[k] at f;clear k;replace F:=hdq (both (rb F.out (X.trans e)) (m7 f (by omega)));replace X:=X.trans e;replace l:=hdq (l.out.ext X);replace br:=X.blk br;replace c:=c.trans X;replace X:=xr p;replace Q:=F.out _ X.off;clear a f e;refine(de _ 6 none 0 0).mono ?_;rintro e t ⟨rfl,e⟩;replace X:=X.trans e;replace Q:=F.out _ X.off;have R:=cbn (X.blk br);go_wp2_with fail;exact R6 (by simp[aR,results107,go_sem,R]) (d5 _ _ 6 0) (rfl) (c.trans X) (aQ _) rfl
theorem IF{D:aL}{u x:Nat}{A:Option Addr}{G:List Tr}{At:Option Addr}{f:List Tr}{ty:Nat->An}(n:Int)(ca ct:Nat)(m:f.length<=ct)(B:ct<=aV)(a:aL)(N:Nat->Prop)(k:Mb D a N u x A G At f ty)(o:f.length=1)(r:Tr×Int)(h:W3 (ty 0) n5 (some (n5,0))=some r):aX prog 107 #[.agg #[.slice A G.length ca,m0 8,m0 n,.slice At f.length ct,.func (.func 105) #[] #[.pointer (some ⟨u,0,none⟩),.pointer (some ⟨x,0,none⟩)]]] a (q8 N a r):=by
 have y:=hdq o;clear o;obtain⟨c,q,v,s⟩:=Sc h;clear h;go_enter func107,ntmps107;go_wp2_with fail;generalize b:aO (aO a _) _=l;obtain⟨d,br,S⟩:=Ze b.symm k.hN;have i:=hdq (k.keep d (g:=a.heap.size+1) (aQ _) (O1 br));have p:l.heap.size=a.heap.size+1+1:=by rw[<-b];simp
 clear k;have F:=hdq (S);have X:=xr l;have Q:=F.out _ X.off;clear S b;generalize b:aO l _=z;obtain⟨j,e⟩:=nb b;rw[p] at j;clear p;replace F:=hdq (both (rb F.out (X.trans e)) (m7 j (by omega)));replace X:=X.trans e;replace i:=hdq (i.out.ext X);replace br:=X.blk br;replace d:=d.trans X;replace X:=xr z;replace Q:=F.out _ X.off;clear b j e;refine rgn (a.heap.size+1) (by kernel_rfl) X ?_;replace X:=X.drew;refine O2 [0] 3 (by kernel_rfl) X.off (fun _ _ _ _ _ h=> h) ?_;refine tk rfl (by rfl) (by intro w X;have Q:=F.out _ X;go_simp;(try with_reducible rfl)) ?_
 try simp only[N2]
 replace Q:=F.out _ X.off;refine O0 1 (by kernel_rfl) rfl rfl (fun K hK=> ?_)
 go_simp
 go_at_call 56
 refine(de _ 6 none 0 0).mono ?_;rintro e E ⟨rfl,e⟩;replace X:=X.trans e;replace Q:=F.out _ X.off;refine hK.out _ _ X.off (fun _=> ?_);clear hK K;refine O0 2 (by kernel_rfl) rfl rfl (fun K hK=> ?_)
 go_simp
 go_at_call 141
 refine(JE 8 n ca ct m B _ _ (i.out.ext X) 0 (by rw[y.out];decide) n5 _ (d5 _ _ 6 0) c q.out).mono ?_;rintro e I ⟨rfl,e⟩;replace X:=X.trans e;replace Q:=F.out _ X.off;refine hK.out _ _ X.off (fun _=> ?_);clear hK K;refine O2 [3] 0 (by kernel_rfl) X.off (fun _ _ _ _ _ h=> h) ?_;refine tk rfl (by rfl) (by intro w X;go_simp;(try with_reducible rfl)) ?_
 try simp only[N2]
 refine bP (by kernel_rfl) ?_ _;obtain⟨C,t⟩ |rfl:=cz c
 · have R:=cbn (X.blk br)
   go_wp2_with fail;exact D9 (by simp[aR,results107,go_sem,R]) (s.out C.out) ((d.trans X).set3 (aQ _) _ _ _) rfl
 obtain rfl:=bY (v.out rfl);clear q v s;go_wp2_with fail;refine(de _ 6 none 0 0).mono ?_;rintro e H ⟨rfl,e⟩;replace X:=X.trans e;replace Q:=F.out _ X.off;have R:=cbn (X.blk br);go_wp2_with fail;exact R6 (by simp[aR,results107,go_sem,R]) (d5 _ _ 6 0) (rfl) (d.trans X) (aQ _) rfl
theorem jH{W:aL}{I D:Nat}{A:Option Addr}{G:List Tr}{At:Option Addr}{m:List Tr}{ty:Nat->An}(n:Int)(ca ct:Nat)(U:m.length<=ct)(l8:ct<=aV)(a:aL)(N:Nat->Prop)(k:Mb W a N I D A G At m ty)(M:0<=n)(L:n<=20)(v: ∀x∈G,j0 D0 x=true)(E:G.length<=ca)(b:ca<=aV)(r:Tr×Int)(h:some (ji G n)=some r):aX prog 107 #[.agg #[.slice A G.length ca,m0 1,m0 n,.slice At m.length ct,.func (.func 105) #[] #[.pointer (some ⟨I,0,none⟩),.pointer (some ⟨D,0,none⟩)]]] a (q8 N a r):=by
 unfold aV at b;by_cases d:(G.length:Int)<=n
 · obtain rfl:r=(j2,1):=by unfold ji at h;rw[if_pos d] at h;simpa using h.symm
   have t1:decide ((G.length:Int)<=n)=true:=decide_eq_true d;clear h d v M L E b;go_enter func107,ntmps107;go_wp2_with fail;exact D9 (by simp[aR,results107,go_sem,NJ]) rfl ((((xr _).alloc _).alloc _).alloc _) rfl
 have t1:decide ((G.length:Int)<=n)=false:=decide_eq_false d;obtain⟨i,hi⟩: ∃i:Nat,(G.length:Int) - 1 - n=(i:Int):=⟨G.length - 1 - n.toNat,by omega⟩;have C:G.length - 1 - n.toNat=i:=by omega
 have J:i < G.length:=by omega
 have V:(i:Int) <(G.length:Int):=by omega
 have P:IntKind.i64.wrap ((G.length:Int) - 1)=(G.length:Int) - 1:=eL _ ⟨by omega,by omega⟩;have t:IntKind.i64.wrap ((G.length:Int) - 1 - n)=(i:Int):=by rw[hi];exact eL _ ⟨by omega,by omega⟩
 have s:IntKind.i64.wrap (n+1)=n+1:=eL _ ⟨by omega,by omega⟩;have T:=hdq (show j0 D0 (kd G i)=true from v _ (Xi J));have H:=hdq (show 0<=n+1/\n+1<=1000 by omega);obtain⟨bg,og,rfl,-,B⟩:=Cd k.hG (by omega);obtain⟨x1,x2,x3,x4,Z,p⟩:=B i J;rw[Nat.mul_comm] at p;have HR:=hdq (show r=mkV (shfT (n+1) (kd G i) 0) by unfold ji at h;rw[if_neg d,C] at h;simpa using h.symm);clear h B v C hi M L d E b;go_enter func107,ntmps107;go_wp2_with fail;generalize c:aO (aO a _) _=q;obtain⟨f,br,S⟩:=Ze c.symm k.hN;have y:=hdq (k.keep f (g:=a.heap.size+1) (aQ _) (O1 br));have j:q.heap.size=a.heap.size+1+1:=by rw[<-c];simp
 clear k;have F:=hdq (both S (p.up f (aQ _)));have X:=xr q;have Q:=F.out _ X.off;clear S c p;generalize c:aO q _=O;obtain⟨o,e⟩:=nb c;rw[j] at o;clear j;replace F:=hdq (both (rb F.out (X.trans e)) (m7 o (by omega)));replace X:=X.trans e;replace y:=hdq (y.out.ext X);replace br:=X.blk br;replace f:=f.trans X;replace X:=xr O;replace Q:=F.out _ X.off;clear c o e;refine rgn (a.heap.size+1) (by kernel_rfl) X ?_;replace X:=X.drew;refine O2 [0,1,2,3,4,5,6,7,8,9,10,11,12,13] 8 (by kernel_rfl) X.off (fun _ _ _ _ _ h=> h) ?_
 iterate 14 (refine tk rfl (by rfl) (by intro w X;have Q:=F.out _ X;go_simp;(try with_reducible rfl)) ?_;try simp only[N2])
 replace Q:=F.out _ X.off;refine O0 14 (by kernel_rfl) rfl rfl (fun K hK=> ?_)
 go_simp
 go_at_call 102
 refine(Yy _ (n+1) 0 _ _ Q.1.2.l T.out H.out.1 H.out.2 (by omega) (by omega)).mono ?_;rintro e Y ⟨u,rfl,z,e⟩;have hx:=z.at' Q.1.1.1;clear z;obtain⟨_,_,_,_,_,rfl⟩:=hx.three;replace X:=X.trans e;replace Q:=F.out _ X.off;refine hK.out _ _ X.off (fun _=> ?_);clear hK K;refine O2 [15,16] 5 (by kernel_rfl) X.off (fun _ _ _ _ _ h=> h) ?_
 iterate 2 (refine tk rfl (by rfl) (by intro w X;go_simp;(try with_reducible rfl)) ?_;try simp only[N2])
 refine O0 17 (by kernel_rfl) rfl rfl (fun K hK=> ?_)
 go_simp
 go_at_call 103
 refine(Un hx).mono ?_;rintro e w4 ⟨_,_,_,_,_,rfl,j,e⟩;replace X:=X.trans e;replace Q:=F.out _ X.off;refine hK.out _ _ X.off (fun _=> ?_);clear hK K;refine O2 [18,19] 2 (by kernel_rfl) X.off (fun _ _ _ _ _ h=> h) ?_
 iterate 2 (refine tk rfl (by rfl) (by intro w X;go_simp;(try with_reducible rfl)) ?_;try simp only[N2])
 clear P t s t1;have R:=cbn (X.blk br);refine O0 20 (by kernel_rfl) rfl rfl (fun K hK=> ?_)
 go_simp
 refine hK.out _ _ (X.off.set3 _ _ _) (fun _=> ?_);clear hK K;refine O2 [21] 0 (by kernel_rfl) (X.off.set3 _ _ _) (fun _ _ _ _ _ h=> h) ?_;refine tk rfl (by rfl) (by intro w X;go_simp;(try with_reducible rfl)) ?_
 try simp only[N2]
 refine bP (by kernel_rfl) ?_ _;go_wp2_with fail;exact R6 (by simp[aR,results107,go_sem,R]) (j) (dd HR.out) (f.trans X) (aQ _) rfl
theorem iG{wC:aL}{W Y:Nat}{A:Option Addr}{G:List Tr}{At:Option Addr}{q:List Tr}{ty:Nat->An}(n:Int)(ca ct:Nat)(x:q.length<=ct)(l8:ct<=aV)(f:aL)(N:Nat->Prop)(C:Mb wC f N W Y A G At q ty)(D:q.length=2)(C4:j0 D0 (kd q 1)=true)(r:Tr×Int)(h:bj ty (kd q 1)=some r):aX prog 107 #[.agg #[.slice A G.length ca,m0 5,m0 n,.slice At q.length ct,.func (.func 105) #[] #[.pointer (some ⟨W,0,none⟩),.pointer (some ⟨Y,0,none⟩)]]] f (q8 N f r):=by
 have rr:=hdq C4;clear C4;obtain⟨s,c,hf,-,-⟩:=Ud h;unfold bj at h;rw[hf] at h;obtain⟨d,I,H,J,V⟩:=yD h;have m:c=0->s.kids.length=2/\j0 D0 s=true:=fun h0=> by
  subst h0;obtain⟨-,q1,q2⟩:=Mi hf;have:U0 3=2:=rfl;exact⟨by omega,q2⟩
 obtain⟨ka,na,E⟩:=s;simp only[Tr.kids] at I H J m;clear h;have HF:=hdq hf;clear hf;have H1:=hdq I;clear I;have T:=hdq H;clear H;have H3:=hdq J;clear J;have P:=hdq V;clear V;have v:=hdq m;clear m;obtain⟨b,o,rfl,-,⟨O8,Q6,O7,P5,P4,K0⟩,ah,bm,aj,dc,df,O⟩:=q17 C.hK D;have hp:=KJ D;have J2:=hdq D;clear D;go_enter func107,ntmps107;go_wp2_with fail;generalize j:aO (aO f _) _=M;obtain⟨a,br,S⟩:=Ze j.symm C.hN;have k:=hdq (C.keep a (g:=f.heap.size+1) (aQ _) (O1 br));have B:M.heap.size=f.heap.size+1+1:=by rw[<-j];simp
 clear C;have F:=hdq (both S (both (K0.up a (aQ _)) (O.up a (aQ _))));have X:=xr M;have Q:=F.out _ X.off;clear S j K0 O;generalize j:aO M _=w2;obtain⟨p,e⟩:=nb j;rw[B] at p;clear B;replace F:=hdq (both (rb F.out (X.trans e)) (m7 p (by omega)));replace X:=X.trans e;replace k:=hdq (k.out.ext X);replace br:=X.blk br;replace a:=a.trans X;replace X:=xr w2;replace Q:=F.out _ X.off;clear j p e;refine(WB 5 n ca ct x l8 _ _ (k.out.ext X) 0 (by rw[J2.out];decide) 3 _ HF.out).mono ?_;rintro e w3 ⟨u,rfl,hT,e⟩;replace X:=X.trans e;replace Q:=F.out _ X.off;simp only at hT⊢;have Z:=hdq hT;obtain⟨A1,c1,rfl,-,-,hK⟩:=InT.mk_iff.1 hT;clear hT;go_wp2_with fail;generalize j:aO w3 _=w4;obtain⟨p,e⟩:=nb j;replace F:=hdq (both (rb F.out (X.trans e)) (both (m7 p (X.ne br)) (both (Z.out.up e) (fun L h=>(hK.later e).off h fun _ h=> h.2))));replace X:=X.trans e;replace k:=hdq (k.out.ext X);replace br:=X.blk br;replace a:=a.trans X;replace X:=xr w4;replace Q:=F.out _ X.off;clear j p e;clear Z hK;refine rgn (f.heap.size+1) (by kernel_rfl) X ?_;replace X:=X.drew;refine O2 [0,1,3] 3 (by kernel_rfl) X.off (fun _ _ _ _ _ h=> h) ?_
 iterate 3 (refine tk rfl (by rfl) (by intro w X;have Q:=F.out _ X;go_simp;(try with_reducible rfl)) ?_;try simp only[N2])
 replace Q:=F.out _ X.off;refine O0 2 (by kernel_rfl) rfl rfl (fun K hK=> ?_)
 go_simp
 go_at_call 146
 refine(uD _ _ _ _ Q.2.2.1).mono ?_;rintro e w5 ⟨u,rfl,hx,e⟩;replace X:=X.trans e;replace Q:=F.out _ X.off;refine hK.out _ _ X.off (fun _=> ?_);clear hK K;obtain⟨_,_,_,_,_,rfl⟩:=hx.three;refine O0 4 (by kernel_rfl) rfl rfl (fun K hK=> ?_)
 go_simp
 go_at_call 145
 refine(gy 5 n ca ct x l8 _ _ (k.out.ext X) 1 (by rw[J2.out];decide) _ _ hx c d H1.out T.out).mono ?_;rintro e w6 ⟨rfl,e⟩;replace X:=X.trans e;replace Q:=F.out _ X.off;refine hK.out _ _ X.off (fun _=> ?_);clear hK K;refine O2 [5] 0 (by kernel_rfl) X.off (fun _ _ _ _ _ h=> h) ?_;refine tk rfl (by rfl) (by intro w X;go_simp;(try with_reducible rfl)) ?_
 try simp only[N2]
 refine bP (by kernel_rfl) ?_ _;clear hx;obtain⟨HC,t⟩ |rfl:=cz d
 · have R:=cbn (X.blk br)
   go_wp2_with fail;exact D9 (by simp[aR,results107,go_sem,R]) (P.out HC.out) ((a.trans X).set3 (aQ _) _ _ _) rfl
 obtain⟨rfl,hq⟩:=H3.out (by trivial);obtain⟨y,hv⟩:=v.out (by trivial);have ae:=hdq (show j0 D0 (kd E 1)=true from Vc hv (i:=1) (by simp only[Tr.kids];omega));have HR:=hdq (bY hq);clear H1 T H3 P v hv hq;obtain⟨b2,o2,rfl,hb,-,f11,f12,f13,f14,f15,U⟩:=q17 Q.2.2.2 y;have z:=hdq (fun L (h:Off (f.heap.size+1) w6 L)=>(KA.off U hb.2 (fun _ h=> h.2) L h));have hp1:(1:Int) <(E.length:Int)/\1 < E.length:=by omega
 clear y U hb;replace F:=hdq (both (rb F.out X) z.out);replace k:=hdq (k.out.ext X);replace br:=X.blk br;replace a:=a.trans X;replace X:=xr w6;replace Q:=F.out _ X.off;clear z;go_wp2_with fail;refine rgn (f.heap.size+1) (by kernel_rfl) X ?_;replace X:=X.drew;refine O2 [0,1,2,3,4,5,6,7] 8 (by kernel_rfl) X.off (fun _ _ _ _ _ h=> h) ?_
 iterate 8 (refine tk rfl (by rfl) (by intro w X;have Q:=F.out _ X;go_simp;(try with_reducible rfl)) ?_;try simp only[N2])
 replace Q:=F.out _ X.off;refine O0 8 (by kernel_rfl) rfl rfl (fun K hK=> ?_)
 go_simp
 go_at_call 119
 refine(Vs ae.out rr.out Q.1.1.1.1.1 Q.2.l Q.1.1.1.2.2.l).mono ?_;rintro e w7 ⟨_,_,_,_,_,rfl,hy,e⟩;replace X:=X.trans e;replace Q:=F.out _ X.off;refine hK.out _ _ X.off (fun _=> ?_);clear hK K;refine O2 [9,10] 5 (by kernel_rfl) X.off (fun _ _ _ _ _ h=> h) ?_
 iterate 2 (refine tk rfl (by rfl) (by intro w X;go_simp;(try with_reducible rfl)) ?_;try simp only[N2])
 refine O0 11 (by kernel_rfl) rfl rfl (fun K hK=> ?_)
 go_simp
 go_at_call 103
 refine(Un hy).mono ?_;rintro e w8 ⟨_,_,_,_,_,rfl,B,e⟩;replace X:=X.trans e;replace Q:=F.out _ X.off;refine hK.out _ _ X.off (fun _=> ?_);clear hK K;refine O2 [12,13] 2 (by kernel_rfl) X.off (fun _ _ _ _ _ h=> h) ?_
 iterate 2 (refine tk rfl (by rfl) (by intro w X;go_simp;(try with_reducible rfl)) ?_;try simp only[N2])
 have R:=cbn (X.blk br);refine O0 14 (by kernel_rfl) rfl rfl (fun K hK=> ?_)
 go_simp
 refine hK.out _ _ (X.off.set3 _ _ _) (fun _=> ?_);clear hK K;refine O2 [15] 0 (by kernel_rfl) (X.off.set3 _ _ _) (fun _ _ _ _ _ h=> h) ?_;refine tk rfl (by rfl) (by intro w X;go_simp;(try with_reducible rfl)) ?_
 try simp only[N2]
 refine bP (by kernel_rfl) ?_ _;go_wp2_with fail;exact R6 (by simp[aR,results107,go_sem,R]) (B) (dd HR.out.symm) (a.trans X) (aQ _) rfl
theorem bG{L:aL}{D E:Nat}{A:Option Addr}{G:List Tr}{At:Option Addr}{l:List Tr}{ty:Nat->An}(n:Int)(ca ct:Nat)(hlt:l.length<=ct)(l8:ct<=aV)(j:aL)(N:Nat->Prop)(q:Mb L j N D E A G At l ty)(m:Tr->An)(J:ue L A ca G m)(v:l.length=1)(B: ∀s,ty 0=some (s,0)->j0 D0 s=true)(r:Tr×Int)(h:sq m ty (kd l 0)=some r):aX prog 107 #[.agg #[.slice A G.length ca,m0 11,m0 n,.slice At l.length ct,.func (.func 105) #[] #[.pointer (some ⟨D,0,none⟩),.pointer (some ⟨E,0,none⟩)]]] j (q8 N j r):=by
 have Y:=hdq J;clear J;have M:=hdq B;clear B;obtain⟨s,c,y,C,P⟩:=a7 h;clear h;obtain⟨b,o,rfl,-,O8,Q6,O7,P5,P4,O⟩:=q16 q.hK v;have hp:=PJ v;have J2:=hdq v;clear v;go_enter func107,ntmps107;go_wp2_with fail;generalize d:aO (aO j _) _=z;obtain⟨f,br,S⟩:=Ze d.symm q.hN;have a:=hdq (q.keep f (g:=j.heap.size+1) (aQ _) (O1 br));have p:z.heap.size=j.heap.size+1+1:=by rw[<-d];simp
 clear q;have F:=hdq (both S (O.up f (aQ _)));have X:=xr z;have Q:=F.out _ X.off;clear S d O;generalize d:aO z _=W;obtain⟨k,e⟩:=nb d;rw[p] at k;clear p;replace F:=hdq (both (rb F.out (X.trans e)) (m7 k (by omega)));replace X:=X.trans e;replace a:=hdq (a.out.ext X);replace br:=X.blk br;replace f:=f.trans X;replace X:=xr W;replace Q:=F.out _ X.off;clear d k e;refine((a.out.ext X).hT _ _ (a.out.ext X).hx (a.out.ext X).hN (a.out.ext X).hG (a.out.ext X).hK 0 (by rw[J2.out];decide) _ y.out).mono ?_;rintro e U ⟨u,rfl,hT,e⟩;replace X:=X.trans e;replace Q:=F.out _ X.off;obtain⟨_,_,_,_,_,rfl⟩:=hT.three;simp only;obtain⟨x,t⟩ |rfl:=cz c
 · have R:=cbn (X.blk br)
   have R':=fun o=> cbn ((X.alloc o).blk br)
   go_wp2_with fail;exact D9 (by simp[aR,results107,go_sem,R,R']) (P.out x.out) (((f.trans X).alloc _).set3 (aQ _) _ _ _) rfl
 have V:=hdq (M.out _ y.out);obtain⟨sB,c,I,T,H⟩:=a7 (C.out rfl);clear y C P M;go_wp2_with fail;generalize d:aO U _=w4;obtain⟨k,e⟩:=nb d;replace F:=hdq (both (rb F.out (X.trans e)) (both (m7 k (X.ne br)) (hT.up e)));replace X:=X.trans e;replace a:=hdq (a.out.ext X);replace br:=X.blk br;replace f:=f.trans X;replace X:=xr w4;replace Q:=F.out _ X.off;clear d k e;clear hT;refine(Sv Y.out _ _ (a.out.ext X).hx (a.out.ext X).hN (a.out.ext X).hG s _ Q.2.2 V.out _ I.out).mono ?_;rintro e w5 ⟨rfl,e⟩;replace X:=X.trans e;replace Q:=F.out _ X.off;simp only;obtain⟨x,t⟩ |rfl:=cz c
 · have R:=cbn (X.blk br)
   go_wp2_with fail;exact D9 (by simp[aR,results107,go_sem,R]) (H.out x.out) ((f.trans X).set3 (aQ _) _ _ _) rfl
 have HR:=hdq (bY (T.out rfl));clear I T H;go_wp2_with fail;refine rgn (j.heap.size+1) (by kernel_rfl) X ?_;replace X:=X.drew;refine O2 [0,1,2,3,4,5,6,7,8] 7 (by kernel_rfl) X.off (fun _ _ _ _ _ h=> h) ?_
 iterate 9 (refine tk rfl (by rfl) (by intro w X;have Q:=F.out _ X;go_simp;(try with_reducible rfl)) ?_;try simp only[N2])
 replace Q:=F.out _ X.off;refine O0 9 (by kernel_rfl) rfl rfl (fun K hK=> ?_)
 go_simp
 obtain⟨e,Z⟩:=fd 25 Q.2.2 Q.1.1.2.i Q.1.1.2.i Q.1.1.1.1;replace X:=X.trans e;replace Q:=F.out _ X.off;refine hK.out _ _ X.off (fun _=> ?_);clear hK K;refine O0 10 (by kernel_rfl) rfl rfl (fun K hK=> ?_)
 go_simp
 go_at_call 56
 refine(rg 10 Z rfl).mono ?_;rintro e w6 ⟨rfl,hx,e⟩;replace X:=X.trans e;replace Q:=F.out _ X.off;refine hK.out _ _ X.off (fun _=> ?_);clear hK K;refine O0 11 (by kernel_rfl) rfl rfl (fun K hK=> ?_)
 go_simp
 go_at_call 103
 refine(Ng hx).mono ?_;rintro e w7 ⟨_,_,_,_,_,rfl,p,e⟩;replace X:=X.trans e;replace Q:=F.out _ X.off;refine hK.out _ _ X.off (fun _=> ?_);clear hK K;refine O2 [12,13] 2 (by kernel_rfl) X.off (fun _ _ _ _ _ h=> h) ?_
 iterate 2 (refine tk rfl (by rfl) (by intro w X;go_simp;(try with_reducible rfl)) ?_;try simp only[N2])
 have R:=cbn (X.blk br);refine O0 14 (by kernel_rfl) rfl rfl (fun K hK=> ?_)
 go_simp
 refine hK.out _ _ (X.off.set3 _ _ _) (fun _=> ?_);clear hK K;refine O2 [15] 0 (by kernel_rfl) (X.off.set3 _ _ _) (fun _ _ _ _ _ h=> h) ?_;refine tk rfl (by rfl) (by intro w X;go_simp;(try with_reducible rfl)) ?_
 try simp only[N2]
 refine bP (by kernel_rfl) ?_ _;go_wp2_with fail;exact R6 (by simp[aR,results107,go_sem,R]) (p) (dd HR.out.symm) (f.trans X) (aQ _) rfl
end Go.Proofs.YtckhbnmfnpolgaaGreat
namespace Go.Proofs.YtckhbnmfnpolgaaGreat
open Go.RowKit
open M (Hd HR Cv Ty Lim dep DG fvb Tm)
theorem Zq(t:Tm): ∀r:Nat->Nat,cnt (enc (t.ren r))=cnt (enc t):=by
 induction t <;> intro r <;> simp only[Tm.ren,enc,cnt,W1, *]
theorem Xw(t:Tm): ∀d,dep t<=d->3*cnt (enc t)+1<=4 ^ d:=by
 have up: ∀{d n:Nat},n+1<=d-> ∃e,d=e+1/\n<=e/\4 ^ d=4*4 ^ e:=fun{d n} h=> by
  obtain⟨e,rfl⟩: ∃e,d=e+1:=⟨d - 1,by omega⟩;exact⟨e,rfl,by omega,by rw[Nat.pow_succ];omega⟩
 have one: ∀{d:Nat},1<=d->4<=4 ^ d:=fun{d} h=> by
  obtain⟨e,-,-,f⟩:=up (n:=0) h;have:1<=4 ^ e:=Nat.pos_of_ne_zero (by simp);omega
 induction t with
 |var n=> intro d h;exact one h
 |sort n=> intro d h;exact one h
 |nat=> intro d h;exact one h
 |zero=> intro d h;exact one h
 |pi A B b c=> intro d h;obtain⟨e,rfl,g,f⟩:=up h;have:=b e (by omega);have:=c e (by omega);simp only[enc,cnt,W1];omega
 |lam A B b c=> intro d h;obtain⟨e,rfl,g,f⟩:=up h;have:=b e (by omega);have:=c e (by omega);simp only[enc,cnt,W1];omega
 |sg A B b c=> intro d h;obtain⟨e,rfl,g,f⟩:=up h;have:=b e (by omega);have:=c e (by omega);simp only[enc,cnt,W1];omega
 |app A B b c=> intro d h;obtain⟨e,rfl,g,f⟩:=up h;have:=b e (by omega);have:=c e (by omega);simp only[enc,cnt,W1];omega
 |succ A b=> intro d h;obtain⟨e,rfl,g,f⟩:=up h;have:=b e (by omega);simp only[enc,cnt,W1];omega
 |refl A b=> intro d h;obtain⟨e,rfl,g,f⟩:=up h;have:=b e (by omega);simp only[enc,cnt,W1];omega
 |fst A b=> intro d h;obtain⟨e,rfl,g,f⟩:=up h;have:=b e (by omega);simp only[enc,cnt,W1];omega
 |snd A b=> intro d h;obtain⟨e,rfl,g,f⟩:=up h;have:=b e (by omega);simp only[enc,cnt,W1];omega
 |elim p z s a b c i j=> intro d h;obtain⟨e,rfl,g,f⟩:=up h;have:=b e (by omega);have:=c e (by omega);have:=i e (by omega);have:=j e (by omega);simp only[enc,cnt,W1];omega
 |id p z s b c i=> intro d h;obtain⟨e,rfl,g,f⟩:=up h;have:=b e (by omega);have:=c e (by omega);have:=i e (by omega);simp only[enc,cnt,W1];omega
 |move p z s b c i=> intro d h;obtain⟨e,rfl,g,f⟩:=up h;have:=b e (by omega);have:=c e (by omega);have:=i e (by omega);simp only[enc,cnt,W1];omega
 |pair p z s b c i=> intro d h;obtain⟨e,rfl,g,f⟩:=up h;have:=b e (by omega);have:=c e (by omega);have:=i e (by omega);simp only[enc,cnt,W1];omega
def ea:Tm->Prop
 | .sort n=> n<=3
 | .pi A B=> ea A/\ea B
 | .lam A B=> ea A/\ea B
 | .sg A B=> ea A/\ea B
 | .app A B=> ea A/\ea B
 | .succ A=> ea A
 | .refl A=> ea A
 | .fst A=> ea A
 | .snd A=> ea A
 | .elim p z s a=> ea p/\ea z/\ea s/\ea a
 | .id p z s=> ea p/\ea z/\ea s
 | .move p z s=> ea p/\ea z/\ea s
 | .pair p z s=> ea p/\ea z/\ea s
 |_=> True
theorem Nv(t:Tm): ∀r:Nat->Nat,ea t->ea (t.ren r):=by
 induction t <;> intro r h <;> simp only[Tm.ren,ea] at* <;> first|exact h|trivial|(simp_all)
theorem so(t:Tm): ∀s:Nat->Tm,(∀n,ea (s n))->ea t->ea (t.sub s):=by
 have b: ∀s:Nat->Tm,(∀n,ea (s n))-> ∀n,ea (Tm.ups s n):=fun s h n=> by
  cases n with
  |zero=> trivial
  |succ n=> exact Nv _ _ (h n)
 induction t <;> intro s hs h <;>(try have a:=b s hs) <;> simp only[Tm.sub,ea] at* <;> first|exact h|trivial|exact hs _|(simp_all)
theorem dG{t u:Tm}(h:ea t)(k:ea u):ea (t.inst u):=so t _ (fun n=> by cases n;exact k;trivial) h
theorem ju: ∀(t:Tm) (d:Int),P0 D0 (enc t) d=true->ea t:=by
 intro t
 induction t with
 |sort n=> intro d h;have:=(Z4 h).2.2.1;simp only[ea];have g:D0.most 2=3:=rfl;omega
 |var n=> intros;trivial
 |nat=> intros;trivial
 |zero=> intros;trivial
 |pi A B b c=> intro d h;have:=(Z4 h).2.2.2;exact⟨b _ (this _ (by simp)),c _ (this _ (by simp))⟩
 |lam A B b c=> intro d h;have:=(Z4 h).2.2.2;exact⟨b _ (this _ (by simp)),c _ (this _ (by simp))⟩
 |sg A B b c=> intro d h;have:=(Z4 h).2.2.2;exact⟨b _ (this _ (by simp)),c _ (this _ (by simp))⟩
 |app A B b c=> intro d h;have:=(Z4 h).2.2.2;exact⟨b _ (this _ (by simp)),c _ (this _ (by simp))⟩
 |succ A b=> intro d h;exact b _ ((Z4 h).2.2.2 _ (by simp))
 |refl A b=> intro d h;exact b _ ((Z4 h).2.2.2 _ (by simp))
 |fst A b=> intro d h;exact b _ ((Z4 h).2.2.2 _ (by simp))
 |snd A b=> intro d h;exact b _ ((Z4 h).2.2.2 _ (by simp))
 |elim p z s a b c e f=> intro d h;have:=(Z4 h).2.2.2;exact⟨b _ (this _ (by simp)),c _ (this _ (by simp)),e _ (this _ (by simp)),f _ (this _ (by simp))⟩
 |id p z s b c e=> intro d h;have:=(Z4 h).2.2.2;exact⟨b _ (this _ (by simp)),c _ (this _ (by simp)),e _ (this _ (by simp))⟩
 |move p z s b c e=> intro d h;have:=(Z4 h).2.2.2;exact⟨b _ (this _ (by simp)),c _ (this _ (by simp)),e _ (this _ (by simp))⟩
 |pair p z s b c e=> intro d h;have:=(Z4 h).2.2.2;exact⟨b _ (this _ (by simp)),c _ (this _ (by simp)),e _ (this _ (by simp))⟩
theorem nI{t:Tm}(h:j0 D0 (enc t)=true):ea t:=ju t _ (Z3 h).1
theorem Uo(t:Tm): ∀{n m:Nat} {s:Nat->Tm},(∀i,i < n->fvb m (s i))->(∀(k:Tm) (r:Nat->Nat) (a b:Nat),(∀i,i < a->r i < b)->fvb a k->fvb b (k.ren r))->fvb n t->fvb m (t.sub s):=by
 have g: ∀{n m:Nat} {s:Nat->Tm},(∀i,i < n->fvb m (s i))->(∀(k:Tm) (r:Nat->Nat) (a b:Nat),(∀i,i < a->r i < b)->fvb a k->fvb b (k.ren r))-> ∀i,i < n+1->fvb (m+1) (Tm.ups s i):=fun h hr i hi=> by
  cases i with
  |zero=> exact Nat.succ_pos _
  |succ i=> exact hr _ _ _ _ (fun i h=> Nat.succ_lt_succ h) (h i (by omega))
 induction t with
 |var i=> intro n m s h hr k;exact h i k
 |sort n=> intros;trivial
 |nat=> intros;trivial
 |zero=> intros;trivial
 |pi A B c d=> intro n m s h hr k;exact⟨c h hr k.1,d (g h hr) hr k.2⟩
 |lam A B c d=> intro n m s h hr k;exact⟨c h hr k.1,d (g h hr) hr k.2⟩
 |sg A B c d=> intro n m s h hr k;exact⟨c h hr k.1,d (g h hr) hr k.2⟩
 |app A B c d=> intro n m s h hr k;exact⟨c h hr k.1,d h hr k.2⟩
 |succ A c=> intro n m s h hr k;exact c h hr k
 |refl A c=> intro n m s h hr k;exact c h hr k
 |fst A c=> intro n m s h hr k;exact c h hr k
 |snd A c=> intro n m s h hr k;exact c h hr k
 |elim p z f a c d e j=> intro n m s h hr k;exact⟨c h hr k.1,d h hr k.2.1,e h hr k.2.2.1,j h hr k.2.2.2⟩
 |id p z f c d e=> intro n m s h hr k;exact⟨c h hr k.1,d h hr k.2.1,e h hr k.2.2⟩
 |move p z f c d e=> intro n m s h hr k;exact⟨c h hr k.1,d h hr k.2.1,e h hr k.2.2⟩
 |pair p z f c d e=> intro n m s h hr k;exact⟨c h hr k.1,d h hr k.2.1,e h hr k.2.2⟩
theorem Ot(t:Tm): ∀(r:Nat->Nat) (a b:Nat),(∀i,i < a->r i < b)->fvb a t->fvb b (t.ren r):=by
 have f: ∀{r:Nat->Nat} {a b:Nat},(∀i,i < a->r i < b)-> ∀i,i < a+1->Tm.upr r i < b+1:=fun h i hi=> by
  cases i with
  |zero=> exact Nat.succ_pos _
  |succ i=> exact Nat.succ_lt_succ (h i (by omega))
 induction t with
 |var i=> intro r n m h k;exact h i k
 |sort n=> intros;trivial
 |nat=> intros;trivial
 |zero=> intros;trivial
 |pi A B c d=> intro r n m h k;exact⟨c r _ _ h k.1,d _ _ _ (f h) k.2⟩
 |lam A B c d=> intro r n m h k;exact⟨c r _ _ h k.1,d _ _ _ (f h) k.2⟩
 |sg A B c d=> intro r n m h k;exact⟨c r _ _ h k.1,d _ _ _ (f h) k.2⟩
 |app A B c d=> intro r n m h k;exact⟨c r _ _ h k.1,d r _ _ h k.2⟩
 |succ A c=> intro r n m h k;exact c r _ _ h k
 |refl A c=> intro r n m h k;exact c r _ _ h k
 |fst A c=> intro r n m h k;exact c r _ _ h k
 |snd A c=> intro r n m h k;exact c r _ _ h k
 |elim p z s a c d e g=> intro r n m h k;exact⟨c r _ _ h k.1,d r _ _ h k.2.1,e r _ _ h k.2.2.1,g r _ _ h k.2.2.2⟩
 |id p z s c d e=> intro r n m h k;exact⟨c r _ _ h k.1,d r _ _ h k.2.1,e r _ _ h k.2.2⟩
 |move p z s c d e=> intro r n m h k;exact⟨c r _ _ h k.1,d r _ _ h k.2.1,e r _ _ h k.2.2⟩
 |pair p z s c d e=> intro r n m h k;exact⟨c r _ _ h k.1,d r _ _ h k.2.1,e r _ _ h k.2.2⟩
theorem YH{t u:Tm}{n:Nat}(h:fvb (n+1) t)(k:fvb n u):fvb n (t.inst u):=Uo t (fun i hi=> by
 cases i with
 |zero=> exact k
 |succ i=> exact Nat.lt_of_succ_lt_succ hi) Ot h
theorem Yz: ∀(t:Tm) (n d:Nat),fvb n t->ea t->dep t<=d->n+d<=21->P0 D0 (enc t) d=true:=by
 have g: ∀{d m:Nat},m+1<=d-> ∃e:Nat,d=e+1/\m<=e/\((e+1:Nat):Int) - 1=(e:Int)/\decide (1<=((e+1:Nat):Int))=true:=fun{d m} h=>⟨d - 1,by omega,by omega,by omega,decide_eq_true (by omega)⟩
 intro t
 induction t with
 |var i=>
  intro n d h _ hd hn;have:i < n:=h;obtain⟨e,rfl,-,c,b⟩:=g hd;simp only[enc,P0,Z8,b,ni,bT,dU,aW,decide_eq_true_eq];refine⟨rfl, ?_⟩;simp only[db,aW,decide_eq_true_eq];have o:D0.most 1=20:=rfl;omega
 |sort i=>
  intro n d _ h hd hn;have:i<=3:=h;obtain⟨e,rfl,-,c,b⟩:=g hd;simp only[enc,P0,Z8,b,ni,bT,dU,aW,decide_eq_true_eq];refine⟨rfl, ?_⟩;simp only[db,aW,decide_eq_true_eq];have o:D0.most 2=3:=rfl;omega
 |nat=> intro n d _ _ hd _;obtain⟨e,rfl,-,c,b⟩:=g hd;simp only[enc,P0,Z8,b,bT,dU];rfl
 |zero=> intro n d _ _ hd _;obtain⟨e,rfl,-,c,b⟩:=g hd;simp only[enc,P0,Z8,b,bT,dU];rfl
 |pi A B f j=> intro n d h s hd hn;obtain⟨e,rfl,k,c,b⟩:=g hd;simp only[enc,P0,Z8,c,b,f n e h.1 s.1 (by omega) (by omega),j (n+1) e h.2 s.2 (by omega) (by omega),bT,dU];rfl
 |lam A B f j=> intro n d h s hd hn;obtain⟨e,rfl,k,c,b⟩:=g hd;simp only[enc,P0,Z8,c,b,f n e h.1 s.1 (by omega) (by omega),j (n+1) e h.2 s.2 (by omega) (by omega),bT,dU];rfl
 |sg A B f j=> intro n d h s hd hn;obtain⟨e,rfl,k,c,b⟩:=g hd;simp only[enc,P0,Z8,c,b,f n e h.1 s.1 (by omega) (by omega),j (n+1) e h.2 s.2 (by omega) (by omega),bT,dU];rfl
 |app A B f j=> intro n d h s hd hn;obtain⟨e,rfl,k,c,b⟩:=g hd;simp only[enc,P0,Z8,c,b,f n e h.1 s.1 (by omega) (by omega),j n e h.2 s.2 (by omega) (by omega),bT,dU];rfl
 |succ A f=> intro n d h s hd hn;obtain⟨e,rfl,k,c,b⟩:=g hd;simp only[enc,P0,Z8,c,b,f n e h s k (by omega),bT,dU];rfl
 |refl A f=> intro n d h s hd hn;obtain⟨e,rfl,k,c,b⟩:=g hd;simp only[enc,P0,Z8,c,b,f n e h s k (by omega),bT,dU];rfl
 |fst A f=> intro n d h s hd hn;obtain⟨e,rfl,k,c,b⟩:=g hd;simp only[enc,P0,Z8,c,b,f n e h s k (by omega),bT,dU];rfl
 |snd A f=> intro n d h s hd hn;obtain⟨e,rfl,k,c,b⟩:=g hd;simp only[enc,P0,Z8,c,b,f n e h s k (by omega),bT,dU];rfl
 |elim p z t a f j l q=> intro n d h s hd hn;obtain⟨e,rfl,k,c,b⟩:=g hd;simp only[enc,P0,Z8,c,b,f n e h.1 s.1 (by omega) (by omega),j n e h.2.1 s.2.1 (by omega) (by omega),l n e h.2.2.1 s.2.2.1 (by omega) (by omega),q n e h.2.2.2 s.2.2.2 (by omega) (by omega),bT,dU];rfl
 |id p z t f j l=> intro n d h s hd hn;obtain⟨e,rfl,k,c,b⟩:=g hd;simp only[enc,P0,Z8,c,b,f n e h.1 s.1 (by omega) (by omega),j n e h.2.1 s.2.1 (by omega) (by omega),l n e h.2.2 s.2.2 (by omega) (by omega),bT,dU];rfl
 |move p z t f j l=> intro n d h s hd hn;obtain⟨e,rfl,k,c,b⟩:=g hd;simp only[enc,P0,Z8,c,b,f n e h.1 s.1 (by omega) (by omega),j n e h.2.1 s.2.1 (by omega) (by omega),l n e h.2.2 s.2.2 (by omega) (by omega),bT,dU];rfl
 |pair p z t f j l=> intro n d h s hd hn;obtain⟨e,rfl,k,c,b⟩:=g hd;simp only[enc,P0,Z8,c,b,f n e h.1 s.1 (by omega) (by omega),j n e h.2.1 s.2.1 (by omega) (by omega),l n e h.2.2 s.2.2 (by omega) (by omega),bT,dU];rfl
theorem WD{t:Tm}{n:Nat}(h:fvb n t)(s:ea t)(hn:n+dep t<=21)(hc:cnt (enc t)<=400):j0 D0 (enc t)=true:=by
 unfold j0;rw[Px (Yz t n (dep t) h s (Nat.le_refl _) hn) (by omega),bT,decide_eq_true_eq];exact hc
