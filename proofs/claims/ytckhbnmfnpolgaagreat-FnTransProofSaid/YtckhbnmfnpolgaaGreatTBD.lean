/- Lemmas towards the law. -/
import Derived.Test.YtckhbnmfnpolgaaGreatTBC
open Go renaming World->aN,Calls->aY,results->aS,wpAnyH_done->bO,maxLen->aW
open Go.World renaming alloc->aO
open Option.some renaming inj->cN
open Nat renaming le_succ->aR
open Go.IntWalk renaming i64_in->eO
open Bool renaming true_and->bV,and_true->dY,and_eq_true->aX
open Go.Proofs.Tryz
set_option linter.all false
set_option maxHeartbeats 8000000
set_option maxRecDepth 100000
namespace Go.Proofs.YtckhbnmfnpolgaaGreat
open Go Go.RowKit
attribute [local go_sem ↓] Go.wp_at_zero Go.wp_at_succ
theorem Ow{f:Nat}(E:xa f){G:List Tr}{A:Option Addr}{ca:Nat}(b:aN)(N:Nat->Prop)(j:SJ b N A G ca)(t:Tr)(v:Value)(hT:InT b N t v)(r:Tr×Int)(h:Q0 (O0 f G t) 2=some r):aY prog 128 #[.slice A G.length ca,v] b fun e w=> e= .returned (.tuple #[j0 r.1.num,j0 r.2])/\Ext b w:=by
 have x:=hdq hT;obtain⟨k,n,O⟩:=t;obtain⟨At,ct,rfl,-⟩:=InT.mk_iff.1 hT;clear hT;obtain⟨s,c,o,l,i⟩:=g8 h;clear h;go_enter func128,ntmps128;go_wp2_with fail;generalize a:aO b _=J;obtain⟨m,X⟩:=nb a;have Q:=cb3 m;clear a;refine(E _ _ _ o.out _ _ A ca _ (j.ext X) (x.out.later X)).mono ?_;rintro e F ⟨u,rfl,hT,e⟩;obtain⟨_,_,_,_,_,rfl⟩:=hT.three;replace X:=X.trans e;clear Q m;simp only;obtain⟨g,t⟩ |rfl:=cz c
 · obtain rfl:=i.out g.out
   go_wp2_with fail;go_ret2;exact⟨rfl,X.alloc _⟩
 obtain⟨B,P,I,d,q,z,p,D⟩:=ss (cN (l.out rfl));clear o l i;go_wp2_with fail;generalize a:aO F _=R;obtain⟨C,e⟩:=nb a;clear a;refine(cl q.out _ _ (j.ext (X.trans e)).hN _ (hT.later e).lies').mono ?_;rintro K L ⟨M,H,rfl,-,-,y⟩;replace X:=(X.trans e).trans y;clear hT e C;simp only;obtain⟨g,t⟩ |rfl:=cz d
 · obtain rfl:=z.out g.out
   go_wp2_with fail;go_ret2;exact⟨rfl,X.alloc _⟩
 obtain⟨g,t⟩ |rfl:=czk B 2
 · obtain rfl:=p.out (by trivial) g.out
   go_wp2_with fail;go_ret2;exact⟨rfl,X.alloc _⟩
 obtain rfl:=D.out (by trivial) (by trivial);go_wp2_with fail;go_ret2;exact⟨rfl,X.alloc _⟩
theorem MF{f:Nat}(H:xa f){G:List Tr}{A:Option Addr}{ca:Nat}(i:aN)(N:Nat->Prop)(p:SJ i N A G ca)(t:Tr)(v:Value)(hT:InT i N t v)(kind:Int)(r:Tr×Int)(h:Q0 (O0 f G t) kind=some r):aY prog 188 #[.slice A G.length ca,v,j0 kind] i (n9 N i r):=by
 have E:=hdq hT;obtain⟨k,n,P⟩:=t;obtain⟨At,ct,rfl,-⟩:=InT.mk_iff.1 hT;clear hT;obtain⟨s,c,z,w,l⟩:=g8 h;clear h;go_enter func188,ntmps188;go_wp2_with fail;generalize g:aO (aO i _) _=D;obtain⟨a,br,S⟩:=Se g.symm p;have F:=hdq (S);have X:=xr D;have Q:=F.out _ X.off;clear S p g;refine(H _ _ _ z.out _ _ A ca _ Q.1 (E.out.keep (a.trans X) (aR _))).mono ?_;rintro e I ⟨u,rfl,hT,e⟩;replace X:=X.trans e;replace Q:=F.out _ X.off;obtain⟨_,_,_,_,_,rfl⟩:=hT.three;simp only;obtain⟨j,t⟩ |rfl:=cz c
 · have R:=cbn (X.blk br)
   have b:=fun o=> cbn ((X.alloc o).blk br)
   go_wp2_with fail;exact v9 (by simp[aS,results188,go_sem,R,b]) (l.out j.out) (((a.trans X).alloc _).set3 (aR _) _ _ _) rfl
 obtain⟨y,T,L,d,q,x,m,C⟩:=ss (cN (w.out rfl));clear z w l;go_wp2_with fail;generalize g:aO I _=J;obtain⟨B,e⟩:=nb g;replace F:=hdq (both (rb F.out (X.trans e)) (both (k8 B (X.ne br)) (hT.up e)));replace X:=X.trans e;replace br:=X.blk br;replace a:=a.trans X;replace X:=xr J;replace Q:=F.out _ X.off;clear g B e;clear hT;refine(cl q.out _ _ Q.1.1.hN _ Q.2.2.lies').mono ?_;rintro e M ⟨O,K,rfl,hK,-,e⟩;replace X:=X.trans e;replace Q:=F.out _ X.off;simp only;obtain⟨j,t⟩ |rfl:=cz d
 · have R:=cbn (X.blk br)
   have b:=fun o=> cbn ((X.alloc o).blk br)
   go_wp2_with fail;exact v9 (by simp[aS,results188,go_sem,R,b]) (x.out j.out) (((a.trans X).alloc _).set3 (aR _) _ _ _) rfl
 obtain⟨j,t⟩ |hk:=czk y kind
 · have R:=cbn (X.blk br)
   have b:=fun o=> cbn ((X.alloc o).blk br)
   go_wp2_with fail;exact v9 (by simp[aS,results188,go_sem,R,b]) (m.out (by trivial) j.out) (((a.trans X).alloc _).set3 (aR _) _ _ _) rfl
 have HR:=hdq (C.out (by trivial) hk);have t:=(show(y !=kind)=false by simp[hk]);clear q x m C hk;have R:=cbn (X.blk br);have b:=fun o=> cbn ((X.alloc o).blk br)
 go_wp2_with fail;exact L7 (by simp[aS,results188,go_sem,R,b]) (hK.later ((xr _).alloc _)) (HR.out) ((a.trans X).alloc _) (aR _) rfl
theorem oI{x:An}{a:Tr}{c:Int}(h:Wa x a=some c): ∃s d,x=some (s,d)/\(d=0->c=W3 s a)/\(d≠0->c=d):=by
 rcases rv h with⟨s,rfl,b⟩ |⟨s,rfl,b⟩
 · exact⟨s,0,rfl,fun _=> b,fun h=> absurd rfl h⟩
 · exact⟨s,c,rfl,fun h=> absurd h b,fun _=> rfl⟩
theorem Sm{f:Nat}(H:xa f){G:List Tr}{A:Option Addr}{ca:Nat}(b:aN)(N:Nat->Prop)(z:SJ b N A G ca)(t a:Tr)(v p:Value)(hT:InT b N t v)(i:Lies b a p)(c:Int)(h:Wa (O0 f G t) a=some c):aY prog 116 #[.slice A G.length ca,v,p] b fun e B=> e= .returned (j0 c)/\Ext b B:=by
 have D:=hdq hT;obtain⟨k,n,R⟩:=t;obtain⟨At,ct,rfl,-⟩:=InT.mk_iff.1 hT;have F:=hdq i;obtain⟨U,J,K⟩:=a;obtain⟨P,S,rfl,-⟩:=Lies.mk_iff.1 i;clear hT i;obtain⟨s,d,x,r,l⟩:=oI h;clear h;have w:=hdq x;clear x;have o:=hdq r;clear r;have m:=hdq l;clear l;go_enter func116,ntmps116;go_wp2_with fail;generalize g:aO (aO b _) _=L;obtain⟨q,y,-,X⟩:=box2 g.symm;have Q:=cb3 q;clear g;refine(H _ _ _ w.out _ _ A ca _ (z.ext X) (D.out.later X)).mono ?_;rintro e C ⟨u,rfl,hT,e⟩;obtain⟨_,_,_,_,_,rfl⟩:=hT.three;replace X:=X.trans e;replace Q:=cb3 (e.blk y);clear q;simp only;obtain⟨I,t⟩ |rfl:=cz d
 · obtain rfl:=m.out I.out
   go_wp2_with fail;go_ret;exact⟨rfl,X.alloc _⟩
 obtain rfl:=o.out rfl;clear w o m;go_wp2_with fail;generalize g:aO C _=V;obtain⟨T,j⟩:=nb g;clear g;refine(IF s _ _ _ _ (hT.later j).lies' (F.out.ext (X.trans j))).mono ?_;rintro M O ⟨rfl,E⟩;replace X:=(X.trans j).trans E;go_wp2_with fail;go_ret;exact⟨rfl,X⟩
theorem QB{f:Nat}(V:xa f){G:List Tr}{A:Option Addr}{ca:Nat}(g:aN)(N:Nat->Prop)(D:SJ g N A G ca)(t T:Tr)(v J:Value)(hT:InT g N t v)(o:Lies g T J)(c:Int)(h:Og (O0 f G t) T=some c):aY prog 189 #[.slice A G.length ca,v,J] g fun e w'=> e= .returned (j0 c)/\Ext g w':=by
 have HT:=hdq hT;obtain⟨k,n,ks⟩:=t;obtain⟨At,ct,rfl,-⟩:=InT.mk_iff.1 hT;have HW:=hdq o;obtain⟨O,I,C⟩:=T;obtain⟨Aw,cw,rfl,-⟩:=Lies.mk_iff.1 o;clear hT o;obtain⟨s,d,B,P,j⟩:=zD h;clear h;go_enter func189,ntmps189;go_wp2_with fail;generalize p:aO (aO g _) _=Z;obtain⟨b,br,S⟩:=qI p.symm D;have F:=hdq (S);have X:=xr Z;have Q:=F.out _ X.off;clear S D p;refine(MF V _ _ Q.1 _ _ (HT.out.keep (b.trans X) (Nat.le_refl _)) 3 _ B.out).mono ?_;rintro e w2 ⟨u,rfl,hT,e⟩;replace X:=X.trans e;replace Q:=F.out _ X.off;obtain⟨ka,na,m⟩:=s;obtain⟨A1,c1,rfl,-,-,hK⟩:=InT.mk_iff.1 hT;clear hT;simp only at hK⊢;obtain⟨i,t⟩ |rfl:=cz d
 · obtain rfl:=j.out i.out
   go_wp2_with fail;go_ret;exact⟨rfl,(b.trans X).alloc _⟩
 obtain⟨-,a,-⟩:=Qs B.out;obtain⟨q,x⟩:=P.out rfl;simp only[Tr.kids] at a hK q x;have a:m.length=2:=by have:S0 3=2:=rfl;omega
 have j:=hdq q;have y:=hdq x;clear B P q x;obtain⟨b2,o2,rfl,z,⟨qq,pw,px,qs,rq,H⟩,f11,f12,f13,f14,Y,E⟩:=y17 hK a;rw[a];clear hK a;go_wp2_with fail;generalize p:aO w2 _=w3;obtain⟨M,e⟩:=nb p;replace F:=hdq (both (rb F.out (X.trans e)) (both (k8 M (X.ne br)) (both (H.fm z e) (E.fm z e))));replace X:=X.trans e;replace br:=X.blk br;replace b:=b.trans X;replace X:=xr w3;replace Q:=F.out _ X.off;clear p M e;clear H E z;have r:=hdq (fun W (o:Ext g W) v (hv:Lies W (kd m 0) v)=> IF (kd m 0) (.mk O I C) W _ _ hv (HW.out.ext o));generalize W3 (kd m 0) (.mk O I C)=cv at r j y;obtain⟨kx,nx,jd,dx,G1,R,L,U⟩:=ss (s:=kd m 1) (kind:=2) rfl;generalize S4 (kd m 1) 2=sh at j R L U;refine rgn g.heap.size (by kernel_rfl) X ?_;replace X:=X.drew;refine B3 [0,1,2,3,4] 2 (by kernel_rfl) X.off (fun _ _ _ _ _ h=> h) ?_
 iterate 5 (refine tk rfl (by rfl) (by intro w X;have Q:=F.out _ X;go_simp;(try with_reducible rfl)) ?_;try simp only[W2])
 replace Q:=F.out _ X.off;refine H0 5 (by kernel_rfl) rfl rfl (fun K hK=> ?_)
 go_simp
 go_at_call 81
 refine(r.out _ (b.trans X) _ Q.2.2.1.l).mono ?_;rintro e w4 ⟨rfl,e⟩;replace X:=X.trans e;replace Q:=F.out _ X.off;refine hK.out _ _ X.off (fun _=> ?_);refine B3 [6] 0 (by kernel_rfl) X.off (fun _ _ _ _ _ h=> h) ?_;refine tk rfl (by rfl) (by intro w X;go_simp;(try with_reducible rfl)) ?_
 try simp only[W2]
 refine bO (by kernel_rfl) ?_ _;obtain⟨i,t⟩ |rfl:=cz cv
 · obtain rfl:=y.out i.out
   go_wp2_with fail;go_ret;exact⟨rfl,(b.trans X)⟩
 obtain rfl:=j.out (by trivial);clear j y r;go_wp2_with fail;refine(cl G1.out _ _ Q.1.1.hN _ Q.2.2.2.l).mono ?_;rintro e w5 ⟨A3,c3,rfl,-,-,e⟩;replace X:=X.trans e;replace Q:=F.out _ X.off;simp only;obtain⟨i,t⟩ |rfl:=cz dx
 · obtain rfl:=R.out i.out
   go_wp2_with fail;go_ret;exact⟨rfl,(b.trans X).alloc _⟩
 obtain⟨i,t⟩ |rfl:=czk kx 2
 · obtain rfl:=L.out (by trivial) i.out
   go_wp2_with fail;go_ret;exact⟨rfl,(b.trans X).alloc _⟩
 obtain rfl:=U.out (by trivial) (by trivial);go_wp2_with fail;go_ret;exact⟨rfl,(b.trans X).alloc _⟩
theorem YI(a b:Int)(w:aN):aY prog 187 #[j0 a,j0 b] w fun e c=> e= .returned (j0 (max a b))/\Ext w c:=by
 by_cases h:b < a
 · have d:decide (b < a)=true:=decide_eq_true h
   have e:max a b=a:=by omega
   rw[e];go_enter func187,ntmps187;go_wp2_with fail;go_ret;exact⟨rfl,xr _⟩
 · have d:decide (b < a)=false:=decide_eq_false h
   have e:max a b=b:=by omega
   rw[e];go_enter func187,ntmps187;go_wp2_with fail;go_ret;exact⟨rfl,xr _⟩
def aJ(k:Int):Nat:=if k=3 then 142 else if k=13 then 142 else if k=4 then 143 else if k=9 then 147 else if k=10 then 148 else if k=12 then 149 else if k=14 then 150 else if k=15 then 151 else 151
theorem ar{s:aN}{f j:Nat}{A:Option Addr}{G:List Tr}{At:Option Addr}{d:List Tr}{ty:Nat->An}(k n:Int)(ca ct:Nat)(t:d.length<=ct)(y:ct<=aW)(b:aN)(N:Nat->Prop)(m:zc s b N f j A G At d ty)(hk:k=3\/k=13\/k=4\/k=9\/k=10\/k=12\/k=14\/k=15\/k=16)(r:Tr×Int)(hc: ∀c,c=aJ k-> ∀w M,zc s w M f j A G At d ty->aY prog c #[.agg #[.slice A G.length ca,j0 k,j0 n,.slice At d.length ct,.func (.func 105) #[] #[O2 f,O2 j]]] w (n9 M w r)):aY prog 107 #[.agg #[.slice A G.length ca,j0 k,j0 n,.slice At d.length ct,.func (.func 105) #[] #[O2 f,O2 j]]] b (n9 N b r):=by
 have x:=hdq hc;clear hc;obtain rfl|rfl|rfl|rfl|rfl|rfl|rfl|rfl|rfl:=hk
 all_goals
  go_enter func107,ntmps107;go_wp2_with fail;generalize a:aO (aO b _) _=l;obtain⟨i,br,S⟩:=Nf a.symm m.hN;have o:=hdq (m.keep i (g:=b.heap.size+1) (aR _) (D1 br));have q:l.heap.size=b.heap.size+1+1:=by rw[<-a];simp
  clear m;have F:=hdq (S);have X:=xr l;have Q:=F.out _ X.off;clear S a;generalize a:aO l _=v;obtain⟨p,e⟩:=nb a;rw[q] at p;clear q;replace F:=hdq (both (rb F.out (X.trans e)) (k8 p (by omega)));replace X:=X.trans e;replace o:=hdq (o.out.ext X);replace br:=X.blk br;replace i:=i.trans X;replace X:=xr v;replace Q:=F.out _ X.off;clear a p e;refine(x.out _ rfl _ _ (o.out.ext X)).mono ?_;rintro e z ⟨u,rfl,hT,e⟩;replace X:=X.trans e;replace Q:=F.out _ X.off;obtain⟨_,_,_,_,_,rfl⟩:=hT.three;have R:=cbn (X.blk br);go_wp2_with fail;exact L7 (by simp[aS,results107,go_sem,R]) (hT) (rfl) (i.trans X) (aR _) rfl
theorem wJ{s:aN}{l o:Nat}{A:Option Addr}{G:List Tr}{At:Option Addr}{i:List Tr}{ty:Nat->An}(n:Int)(ca ct:Nat)(p:i.length<=ct)(v:ct<=aW)(b:aN)(N:Nat->Prop)(f:zc s b N l o A G At i ty)(u:0<=n)(w:n<=3)(r:Tr×Int)(h:some (if n=3 then(D2,1) else(m7 (n+1),0))=some r):aY prog 107 #[.agg #[.slice A G.length ca,j0 2,j0 n,.slice At i.length ct,.func (.func 105) #[] #[O2 l,O2 o]]] b (n9 N b r):=by
 by_cases hn:n=3
 · obtain rfl:r=(D2,1):=by rw[if_pos hn] at h;simpa using h.symm
   have t1:(n==3)=true:=beq_iff_eq.2 hn;clear h hn;go_enter func107,ntmps107;go_wp2_with fail;exact v9 (by simp[aS,results107,go_sem,kL]) rfl ((((xr _).alloc _).alloc _).alloc _) rfl
 obtain rfl:r=(m7 (n+1),0):=by rw[if_neg hn] at h;simpa using h.symm
 have t1:(n==3)=false:=beq_eq_false_iff_ne.2 hn;have q:IntKind.i64.wrap (n+1)=n+1:=eO _ ⟨by omega,by omega⟩;clear h hn;go_enter func107,ntmps107;go_wp2_with fail;generalize a:aO (aO b _) _=d;obtain⟨c,br,S⟩:=Nf a.symm f.hN;have m:=hdq (f.keep c (g:=b.heap.size+1) (aR _) (D1 br));have k:d.heap.size=b.heap.size+1+1:=by rw[<-a];simp
 clear f;have F:=hdq (S);have X:=xr d;have Q:=F.out _ X.off;clear S a;generalize a:aO d _=t;obtain⟨j,e⟩:=nb a;rw[k] at j;clear k;replace F:=hdq (both (rb F.out (X.trans e)) (k8 j (by omega)));replace X:=X.trans e;replace m:=hdq (m.out.ext X);replace br:=X.blk br;replace c:=c.trans X;replace X:=xr t;replace Q:=F.out _ X.off;clear a j e;refine(Yq (n+1) _).mono ?_;rintro e x ⟨rfl,e⟩;replace X:=X.trans e;replace Q:=F.out _ X.off;have R:=cbn (X.blk br);go_wp2_with fail;exact L7 (by simp[aS,results107,go_sem,R]) (Z5 _ _ 2 (n+1)) (rfl) (c.trans X) (aR _) rfl
theorem XG{q:aN}{l o:Nat}{A:Option Addr}{G:List Tr}{At:Option Addr}{i:List Tr}{ty:Nat->An}(n:Int)(ca ct:Nat)(p:i.length<=ct)(t:ct<=aW)(b:aN)(N:Nat->Prop)(f:zc q b N l o A G At i ty)(r:Tr×Int)(h:some (m7 0,0)=some r):aY prog 107 #[.agg #[.slice A G.length ca,j0 6,j0 n,.slice At i.length ct,.func (.func 105) #[] #[O2 l,O2 o]]] b (n9 N b r):=by
 obtain rfl:r=(m7 0,0):=by simpa using h.symm
 clear h;go_enter func107,ntmps107;go_wp2_with fail;generalize a:aO (aO b _) _=d;obtain⟨c,br,S⟩:=Nf a.symm f.hN;have m:=hdq (f.keep c (g:=b.heap.size+1) (aR _) (D1 br));have k:d.heap.size=b.heap.size+1+1:=by rw[<-a];simp
 clear f;have F:=hdq (S);have X:=xr d;have Q:=F.out _ X.off;clear S a;generalize a:aO d _=s;obtain⟨j,e⟩:=nb a;rw[k] at j;clear k;replace F:=hdq (both (rb F.out (X.trans e)) (k8 j (by omega)));replace X:=X.trans e;replace m:=hdq (m.out.ext X);replace br:=X.blk br;replace c:=c.trans X;replace X:=xr s;replace Q:=F.out _ X.off;clear a j e;refine(Yq 0 _).mono ?_;rintro e u ⟨rfl,e⟩;replace X:=X.trans e;replace Q:=F.out _ X.off;have R:=cbn (X.blk br);go_wp2_with fail;exact L7 (by simp[aS,results107,go_sem,R]) (Z5 _ _ 2 0) (rfl) (c.trans X) (aR _) rfl
theorem pK{q:aN}{l o:Nat}{A:Option Addr}{G:List Tr}{At:Option Addr}{i:List Tr}{ty:Nat->An}(n:Int)(ca ct:Nat)(p:i.length<=ct)(t:ct<=aW)(b:aN)(N:Nat->Prop)(f:zc q b N l o A G At i ty)(r:Tr×Int)(h:some (L6,0)=some r):aY prog 107 #[.agg #[.slice A G.length ca,j0 7,j0 n,.slice At i.length ct,.func (.func 105) #[] #[O2 l,O2 o]]] b (n9 N b r):=by
 obtain rfl:r=(L6,0):=by simpa using h.symm
 clear h;go_enter func107,ntmps107;go_wp2_with fail;generalize a:aO (aO b _) _=d;obtain⟨c,br,S⟩:=Nf a.symm f.hN;have m:=hdq (f.keep c (g:=b.heap.size+1) (aR _) (D1 br));have k:d.heap.size=b.heap.size+1+1:=by rw[<-a];simp
 clear f;have F:=hdq (S);have X:=xr d;have Q:=F.out _ X.off;clear S a;generalize a:aO d _=s;obtain⟨j,e⟩:=nb a;rw[k] at j;clear k;replace F:=hdq (both (rb F.out (X.trans e)) (k8 j (by omega)));replace X:=X.trans e;replace m:=hdq (m.out.ext X);replace br:=X.blk br;replace c:=c.trans X;replace X:=xr s;replace Q:=F.out _ X.off;clear a j e;refine(Qe _ 6 none 0 0).mono ?_;rintro e u ⟨rfl,e⟩;replace X:=X.trans e;replace Q:=F.out _ X.off;have R:=cbn (X.blk br);go_wp2_with fail;exact L7 (by simp[aS,results107,go_sem,R]) (Z5 _ _ 6 0) (rfl) (c.trans X) (aR _) rfl
theorem gH{y:aN}{s x:Nat}{A:Option Addr}{G:List Tr}{At:Option Addr}{f:List Tr}{ty:Nat->An}(n:Int)(ca ct:Nat)(i:f.length<=ct)(z:ct<=aW)(a:aN)(N:Nat->Prop)(k:zc y a N s x A G At f ty)(v:f.length=1)(r:Tr×Int)(h:E4 (ty 0) L6 (some (L6,0))=some r):aY prog 107 #[.agg #[.slice A G.length ca,j0 8,j0 n,.slice At f.length ct,.func (.func 105) #[] #[O2 s,O2 x]]] a (n9 N a r):=by
 have B:=hdq v;clear v;obtain⟨c,u,q,p⟩:=yd h;clear h;go_enter func107,ntmps107;go_wp2_with fail;generalize b:aO (aO a _) _=j;obtain⟨d,br,S⟩:=Nf b.symm k.hN;have l:=hdq (k.keep d (g:=a.heap.size+1) (aR _) (D1 br));have o:j.heap.size=a.heap.size+1+1:=by rw[<-b];simp
 clear k;have F:=hdq (S);have X:=xr j;have Q:=F.out _ X.off;clear S b;generalize b:aO j _=C;obtain⟨m,e⟩:=nb b;rw[o] at m;clear o;replace F:=hdq (both (rb F.out (X.trans e)) (k8 m (by omega)));replace X:=X.trans e;replace l:=hdq (l.out.ext X);replace br:=X.blk br;replace d:=d.trans X;replace X:=xr C;replace Q:=F.out _ X.off;clear b m e;refine rgn (a.heap.size+1) (by kernel_rfl) X ?_;replace X:=X.drew;refine B3 [0] 3 (by kernel_rfl) X.off (fun _ _ _ _ _ h=> h) ?_;refine tk rfl (by rfl) (by intro w X;have Q:=F.out _ X;go_simp;(try with_reducible rfl)) ?_
 try simp only[W2]
 replace Q:=F.out _ X.off;refine H0 1 (by kernel_rfl) rfl rfl (fun K hK=> ?_)
 go_simp
 go_at_call 56
 refine(Qe _ 6 none 0 0).mono ?_;rintro e I ⟨rfl,e⟩;replace X:=X.trans e;replace Q:=F.out _ X.off;refine hK.out _ _ X.off (fun _=> ?_);refine H0 2 (by kernel_rfl) rfl rfl (fun K hK=> ?_)
 go_simp
 go_at_call 141
 refine(GF 8 n ca ct i z _ _ (l.out.ext X) 0 (by rw[B.out];decide) L6 _ (Z5 _ _ 6 0) c u.out).mono ?_;rintro e E ⟨rfl,e⟩;replace X:=X.trans e;replace Q:=F.out _ X.off;refine hK.out _ _ X.off (fun _=> ?_);refine B3 [3] 0 (by kernel_rfl) X.off (fun _ _ _ _ _ h=> h) ?_;refine tk rfl (by rfl) (by intro w X;go_simp;(try with_reducible rfl)) ?_
 try simp only[W2]
 refine bO (by kernel_rfl) ?_ _;obtain⟨D,t⟩ |rfl:=cz c
 · have R:=cbn (X.blk br)
   go_wp2_with fail;exact v9 (by simp[aS,results107,go_sem,R]) (p.out D.out) ((d.trans X).set3 (aR _) _ _ _) rfl
 obtain rfl:=cN (q.out rfl);clear u q p;go_wp2_with fail;refine(Qe _ 6 none 0 0).mono ?_;rintro e H ⟨rfl,e⟩;replace X:=X.trans e;replace Q:=F.out _ X.off;have R:=cbn (X.blk br);go_wp2_with fail;exact L7 (by simp[aS,results107,go_sem,R]) (Z5 _ _ 6 0) (rfl) (d.trans X) (aR _) rfl
theorem tI{V:aN}{H L:Nat}{A:Option Addr}{G:List Tr}{At:Option Addr}{t:List Tr}{ty:Nat->An}(n:Int)(ca ct:Nat)(O:t.length<=ct)(l9:ct<=aW)(a:aN)(N:Nat->Prop)(k:zc V a N H L A G At t ty)(z:0<=n)(E:n<=20)(p: ∀x∈G,valid sigT x=true)(y:G.length<=ca)(b:ca<=aW)(r:Tr×Int)(h:some (Oj G n)=some r):aY prog 107 #[.agg #[.slice A G.length ca,j0 1,j0 n,.slice At t.length ct,.func (.func 105) #[] #[O2 H,O2 L]]] a (n9 N a r):=by
 unfold aW at b;by_cases d:(G.length:Int)<=n
 · obtain rfl:r=(D2,1):=by unfold Oj at h;rw[if_pos d] at h;simpa using h.symm
   have t1:decide ((G.length:Int)<=n)=true:=decide_eq_true d;clear h d p z E y b;go_enter func107,ntmps107;go_wp2_with fail;exact v9 (by simp[aS,results107,go_sem,kL]) rfl ((((xr _).alloc _).alloc _).alloc _) rfl
 have t1:decide ((G.length:Int)<=n)=false:=decide_eq_false d;obtain⟨i,hi⟩: ∃i:Nat,(G.length:Int) - 1 - n=(i:Int):=⟨G.length - 1 - n.toNat,by omega⟩;have M:G.length - 1 - n.toNat=i:=by omega
 have B:i < G.length:=by omega
 have T:(i:Int) <(G.length:Int):=by omega
 have P:IntKind.i64.wrap ((G.length:Int) - 1)=(G.length:Int) - 1:=eO _ ⟨by omega,by omega⟩;have s:IntKind.i64.wrap ((G.length:Int) - 1 - n)=(i:Int):=by rw[hi];exact eO _ ⟨by omega,by omega⟩
 have o:IntKind.i64.wrap (n+1)=n+1:=eO _ ⟨by omega,by omega⟩;have W:=hdq (show valid sigT (kd G i)=true from p _ (Pk B));have C:=hdq (show 0<=n+1/\n+1<=1000 by omega);obtain⟨bg,og,rfl,-,I⟩:=ae k.hG (by omega);obtain⟨x1,x2,x3,x4,Z,q⟩:=I i B;rw[Nat.mul_comm] at q;have HR:=hdq (show r=mkV (shfT (n+1) (kd G i) 0) by unfold Oj at h;rw[if_neg d,M] at h;simpa using h.symm);clear h I p M hi z E d y b;go_enter func107,ntmps107;go_wp2_with fail;generalize c:aO (aO a _) _=m;obtain⟨f,br,S⟩:=Nf c.symm k.hN;have J:=hdq (k.keep f (g:=a.heap.size+1) (aR _) (D1 br));have j:m.heap.size=a.heap.size+1+1:=by rw[<-c];simp
 clear k;have F:=hdq (both S (q.up f (aR _)));have X:=xr m;have Q:=F.out _ X.off;clear S c q;generalize c:aO m _=U;obtain⟨v,e⟩:=nb c;rw[j] at v;clear j;replace F:=hdq (both (rb F.out (X.trans e)) (k8 v (by omega)));replace X:=X.trans e;replace J:=hdq (J.out.ext X);replace br:=X.blk br;replace f:=f.trans X;replace X:=xr U;replace Q:=F.out _ X.off;clear c v e;refine rgn (a.heap.size+1) (by kernel_rfl) X ?_;replace X:=X.drew;refine B3 [0,1,2,3,4,5,6,7,8,9,10,11,12,13] 8 (by kernel_rfl) X.off (fun _ _ _ _ _ h=> h) ?_
 iterate 14 (refine tk rfl (by rfl) (by intro w X;have Q:=F.out _ X;go_simp;(try with_reducible rfl)) ?_;try simp only[W2])
 replace Q:=F.out _ X.off;refine H0 14 (by kernel_rfl) rfl rfl (fun K hK=> ?_)
 go_simp
 go_at_call 102
 refine(aD _ (n+1) 0 _ _ Q.1.2.l W.out C.out.1 C.out.2 (by omega) (by omega)).mono ?_;rintro e w3 ⟨u,rfl,D,e⟩;have hx:=D.at' Q.1.1.1;clear D;obtain⟨_,_,_,_,_,rfl⟩:=hx.three;replace X:=X.trans e;replace Q:=F.out _ X.off;refine hK.out _ _ X.off (fun _=> ?_);refine B3 [15,16] 5 (by kernel_rfl) X.off (fun _ _ _ _ _ h=> h) ?_
 iterate 2 (refine tk rfl (by rfl) (by intro w X;go_simp;(try with_reducible rfl)) ?_;try simp only[W2])
 refine H0 17 (by kernel_rfl) rfl rfl (fun K hK=> ?_)
 go_simp
 go_at_call 103
 refine(Mp hx).mono ?_;rintro e Y ⟨_,_,_,_,_,rfl,j,e⟩;replace X:=X.trans e;replace Q:=F.out _ X.off;refine hK.out _ _ X.off (fun _=> ?_);refine B3 [18,19] 2 (by kernel_rfl) X.off (fun _ _ _ _ _ h=> h) ?_
 iterate 2 (refine tk rfl (by rfl) (by intro w X;go_simp;(try with_reducible rfl)) ?_;try simp only[W2])
 clear P s o t1;have R:=cbn (X.blk br);refine H0 20 (by kernel_rfl) rfl rfl (fun K hK=> ?_)
 go_simp
 refine hK.out _ _ (X.off.set3 _ _ _) (fun _=> ?_);refine B3 [21] 0 (by kernel_rfl) (X.off.set3 _ _ _) (fun _ _ _ _ _ h=> h) ?_;refine tk rfl (by rfl) (by intro w X;go_simp;(try with_reducible rfl)) ?_
 try simp only[W2]
 refine bO (by kernel_rfl) ?_ _;go_wp2_with fail;exact L7 (by simp[aS,results107,go_sem,R]) (j) (Od HR.out) (f.trans X) (aR _) rfl
theorem LJ{wC:aN}{Y W:Nat}{A:Option Addr}{G:List Tr}{At:Option Addr}{p:List Tr}{ty:Nat->An}(n:Int)(ca ct:Nat)(v:p.length<=ct)(Z:ct<=aW)(f:aN)(N:Nat->Prop)(B:zc wC f N Y W A G At p ty)(C:p.length=2)(B8:valid sigT (kd p 1)=true)(r:Tr×Int)(h:Zl ty (kd p 1)=some r):aY prog 107 #[.agg #[.slice A G.length ca,j0 5,j0 n,.slice At p.length ct,.func (.func 105) #[] #[O2 Y,O2 W]]] f (n9 N f r):=by
 have qi:=hdq B8;clear B8;obtain⟨s,c,hf,-,-⟩:=we h;unfold Zl at h;rw[hf] at h;obtain⟨d,I,M,E,P⟩:=oC h;have m:c=0->s.kids.length=2/\valid sigT s=true:=fun h0=> by
  subst h0;obtain⟨-,q1,q2⟩:=vi hf;have:S0 3=2:=rfl;exact⟨by omega,q2⟩
 obtain⟨ka,na,J⟩:=s;simp only[Tr.kids] at I M E m;clear h;have HF:=hdq hf;clear hf;have H1:=hdq I;clear I;have H2:=hdq M;clear M;have H3:=hdq E;clear E;have H4:=hdq P;clear P;have z:=hdq m;clear m;obtain⟨b,o,rfl,-,⟨O9,P3,P6,Q5,R6,K0⟩,eh,ax,dv,df,bm,K1⟩:=y17 B.hK C;have hp:=mL C;have U:=hdq C;clear C;go_enter func107,ntmps107;go_wp2_with fail;generalize j:aO (aO f _) _=H;obtain⟨a,br,S⟩:=Nf j.symm B.hN;have k:=hdq (B.keep a (g:=f.heap.size+1) (aR _) (D1 br));have D:H.heap.size=f.heap.size+1+1:=by rw[<-j];simp
 clear B;have F:=hdq (both S (both (K0.up a (aR _)) (K1.up a (aR _))));have X:=xr H;have Q:=F.out _ X.off;clear S j K0 K1;generalize j:aO H _=w2;obtain⟨q,e⟩:=nb j;rw[D] at q;clear D;replace F:=hdq (both (rb F.out (X.trans e)) (k8 q (by omega)));replace X:=X.trans e;replace k:=hdq (k.out.ext X);replace br:=X.blk br;replace a:=a.trans X;replace X:=xr w2;replace Q:=F.out _ X.off;clear j q e;refine(bF 5 n ca ct v Z _ _ (k.out.ext X) 0 (by rw[U.out];decide) 3 _ HF.out).mono ?_;rintro e w3 ⟨u,rfl,hT,e⟩;replace X:=X.trans e;replace Q:=F.out _ X.off;simp only at hT⊢;have HT:=hdq hT;obtain⟨A1,c1,rfl,-,-,hK⟩:=InT.mk_iff.1 hT;clear hT;go_wp2_with fail;generalize j:aO w3 _=w4;obtain⟨q,e⟩:=nb j;replace F:=hdq (both (rb F.out (X.trans e)) (both (k8 q (X.ne br)) (both (HT.out.up e) (fun L h=>(hK.later e).off h fun _ h=> h.2))));replace X:=X.trans e;replace k:=hdq (k.out.ext X);replace br:=X.blk br;replace a:=a.trans X;replace X:=xr w4;replace Q:=F.out _ X.off;clear j q e;clear HT hK;refine rgn (f.heap.size+1) (by kernel_rfl) X ?_;replace X:=X.drew;refine B3 [0,1,3] 3 (by kernel_rfl) X.off (fun _ _ _ _ _ h=> h) ?_
 iterate 3 (refine tk rfl (by rfl) (by intro w X;have Q:=F.out _ X;go_simp;(try with_reducible rfl)) ?_;try simp only[W2])
 replace Q:=F.out _ X.off;refine H0 2 (by kernel_rfl) rfl rfl (fun K hK=> ?_)
 go_simp
 go_at_call 146
 refine(RD _ _ _ _ Q.2.2.1).mono ?_;rintro e w5 ⟨u,rfl,hx,e⟩;replace X:=X.trans e;replace Q:=F.out _ X.off;refine hK.out _ _ X.off (fun _=> ?_);obtain⟨_,_,_,_,_,rfl⟩:=hx.three;refine H0 4 (by kernel_rfl) rfl rfl (fun K hK=> ?_)
 go_simp
 go_at_call 145
 refine(tA 5 n ca ct v Z _ _ (k.out.ext X) 1 (by rw[U.out];decide) _ _ hx c d H1.out H2.out).mono ?_;rintro e O ⟨rfl,e⟩;replace X:=X.trans e;replace Q:=F.out _ X.off;refine hK.out _ _ X.off (fun _=> ?_);refine B3 [5] 0 (by kernel_rfl) X.off (fun _ _ _ _ _ h=> h) ?_;refine tk rfl (by rfl) (by intro w X;go_simp;(try with_reducible rfl)) ?_
 try simp only[W2]
 refine bO (by kernel_rfl) ?_ _;clear hx;obtain⟨HC,t⟩ |rfl:=cz d
 · have R:=cbn (X.blk br)
   go_wp2_with fail;exact v9 (by simp[aS,results107,go_sem,R]) (H4.out HC.out) ((a.trans X).set3 (aR _) _ _ _) rfl
 obtain⟨rfl,T⟩:=H3.out (by trivial);obtain⟨y,hv⟩:=z.out (by trivial);have av:=hdq (show valid sigT (kd J 1)=true from qd hv (i:=1) (by simp only[Tr.kids];omega));have HR:=hdq (cN T);clear H1 H2 H3 H4 z hv T;obtain⟨b2,o2,rfl,hb,-,f11,f12,f13,f14,f15,V⟩:=y17 Q.2.2.2 y;have x:=hdq (fun L (h:Off (f.heap.size+1) O L)=>(KA.off V hb.2 (fun _ h=> h.2) L h));have hp1:(1:Int) <(J.length:Int)/\1 < J.length:=by omega
 clear y V hb;replace F:=hdq (both (rb F.out X) x.out);replace k:=hdq (k.out.ext X);replace br:=X.blk br;replace a:=a.trans X;replace X:=xr O;replace Q:=F.out _ X.off;clear x;go_wp2_with fail;refine rgn (f.heap.size+1) (by kernel_rfl) X ?_;replace X:=X.drew;refine B3 [0,1,2,3,4,5,6,7] 8 (by kernel_rfl) X.off (fun _ _ _ _ _ h=> h) ?_
 iterate 8 (refine tk rfl (by rfl) (by intro w X;have Q:=F.out _ X;go_simp;(try with_reducible rfl)) ?_;try simp only[W2])
 replace Q:=F.out _ X.off;refine H0 8 (by kernel_rfl) rfl rfl (fun K hK=> ?_)
 go_simp
 go_at_call 119
 refine(dz av.out qi.out Q.1.1.1.1.1 Q.2.l Q.1.1.1.2.2.l).mono ?_;rintro e w7 ⟨_,_,_,_,_,rfl,hy,e⟩;replace X:=X.trans e;replace Q:=F.out _ X.off;refine hK.out _ _ X.off (fun _=> ?_);refine B3 [9,10] 5 (by kernel_rfl) X.off (fun _ _ _ _ _ h=> h) ?_
 iterate 2 (refine tk rfl (by rfl) (by intro w X;go_simp;(try with_reducible rfl)) ?_;try simp only[W2])
 refine H0 11 (by kernel_rfl) rfl rfl (fun K hK=> ?_)
 go_simp
 go_at_call 103
 refine(Mp hy).mono ?_;rintro e w8 ⟨_,_,_,_,_,rfl,D,e⟩;replace X:=X.trans e;replace Q:=F.out _ X.off;refine hK.out _ _ X.off (fun _=> ?_);refine B3 [12,13] 2 (by kernel_rfl) X.off (fun _ _ _ _ _ h=> h) ?_
 iterate 2 (refine tk rfl (by rfl) (by intro w X;go_simp;(try with_reducible rfl)) ?_;try simp only[W2])
 have R:=cbn (X.blk br);refine H0 14 (by kernel_rfl) rfl rfl (fun K hK=> ?_)
 go_simp
 refine hK.out _ _ (X.off.set3 _ _ _) (fun _=> ?_);refine B3 [15] 0 (by kernel_rfl) (X.off.set3 _ _ _) (fun _ _ _ _ _ h=> h) ?_;refine tk rfl (by rfl) (by intro w X;go_simp;(try with_reducible rfl)) ?_
 try simp only[W2]
 refine bO (by kernel_rfl) ?_ _;go_wp2_with fail;exact L7 (by simp[aS,results107,go_sem,R]) (D) (Od HR.out.symm) (a.trans X) (aR _) rfl
theorem yH{T:aN}{I D:Nat}{A:Option Addr}{G:List Tr}{At:Option Addr}{l:List Tr}{ty:Nat->An}(n:Int)(ca ct:Nat)(Z:l.length<=ct)(l9:ct<=aW)(j:aN)(N:Nat->Prop)(p:zc T j N I D A G At l ty)(m:Tr->An)(H:kf T A ca G m)(q:l.length=1)(C: ∀s,ty 0=some (s,0)->valid sigT s=true)(r:Tr×Int)(h:qn m ty (kd l 0)=some r):aY prog 107 #[.agg #[.slice A G.length ca,j0 11,j0 n,.slice At l.length ct,.func (.func 105) #[] #[O2 I,O2 D]]] j (n9 N j r):=by
 have V:=hdq H;clear H;have B:=hdq C;clear C;obtain⟨s,c,z,O,J⟩:=g8 h;clear h;obtain⟨b,o,rfl,-,O9,P3,P6,Q5,R6,M⟩:=q16 p.hK q;have hp:=gL q;have U:=hdq q;clear q;go_enter func107,ntmps107;go_wp2_with fail;generalize f:aO (aO j _) _=y;obtain⟨d,br,S⟩:=Nf f.symm p.hN;have a:=hdq (p.keep d (g:=j.heap.size+1) (aR _) (D1 br));have v:y.heap.size=j.heap.size+1+1:=by rw[<-f];simp
 clear p;have F:=hdq (both S (M.up d (aR _)));have X:=xr y;have Q:=F.out _ X.off;clear S f M;generalize f:aO y _=w2;obtain⟨k,e⟩:=nb f;rw[v] at k;clear v;replace F:=hdq (both (rb F.out (X.trans e)) (k8 k (by omega)));replace X:=X.trans e;replace a:=hdq (a.out.ext X);replace br:=X.blk br;replace d:=d.trans X;replace X:=xr w2;replace Q:=F.out _ X.off;clear f k e;refine((a.out.ext X).hT _ _ (a.out.ext X).hx (a.out.ext X).hN (a.out.ext X).hG (a.out.ext X).hK 0 (by rw[U.out];decide) _ z.out).mono ?_;rintro e w3 ⟨u,rfl,hT,e⟩;replace X:=X.trans e;replace Q:=F.out _ X.off;obtain⟨_,_,_,_,_,rfl⟩:=hT.three;simp only;obtain⟨x,t⟩ |rfl:=cz c
 · have R:=cbn (X.blk br)
   have Y:=fun o=> cbn ((X.alloc o).blk br)
   go_wp2_with fail;exact v9 (by simp[aS,results107,go_sem,R,Y]) (J.out x.out) (((d.trans X).alloc _).set3 (aR _) _ _ _) rfl
 have il:=hdq (B.out _ z.out);obtain⟨sB,c,E,P,L⟩:=g8 (O.out rfl);clear z O J B;go_wp2_with fail;generalize f:aO w3 _=w4;obtain⟨k,e⟩:=nb f;replace F:=hdq (both (rb F.out (X.trans e)) (both (k8 k (X.ne br)) (hT.up e)));replace X:=X.trans e;replace a:=hdq (a.out.ext X);replace br:=X.blk br;replace d:=d.trans X;replace X:=xr w4;replace Q:=F.out _ X.off;clear f k e;clear hT;refine(zz V.out _ _ (a.out.ext X).hx (a.out.ext X).hN (a.out.ext X).hG s _ Q.2.2 il.out _ E.out).mono ?_;rintro e w5 ⟨rfl,e⟩;replace X:=X.trans e;replace Q:=F.out _ X.off;simp only;obtain⟨x,t⟩ |rfl:=cz c
 · have R:=cbn (X.blk br)
   go_wp2_with fail;exact v9 (by simp[aS,results107,go_sem,R]) (L.out x.out) ((d.trans X).set3 (aR _) _ _ _) rfl
 have HR:=hdq (cN (P.out rfl));clear E P L;go_wp2_with fail;refine rgn (j.heap.size+1) (by kernel_rfl) X ?_;replace X:=X.drew;refine B3 [0,1,2,3,4,5,6,7,8] 7 (by kernel_rfl) X.off (fun _ _ _ _ _ h=> h) ?_
 iterate 9 (refine tk rfl (by rfl) (by intro w X;have Q:=F.out _ X;go_simp;(try with_reducible rfl)) ?_;try simp only[W2])
 replace Q:=F.out _ X.off;refine H0 9 (by kernel_rfl) rfl rfl (fun K hK=> ?_)
 go_simp
 obtain⟨e,W⟩:=Zc 25 Q.2.2 Q.1.1.2.i Q.1.1.2.i Q.1.1.1.1;replace X:=X.trans e;replace Q:=F.out _ X.off;refine hK.out _ _ X.off (fun _=> ?_);refine H0 10 (by kernel_rfl) rfl rfl (fun K hK=> ?_)
 go_simp
 go_at_call 56
 refine(yk 10 W rfl).mono ?_;rintro e w6 ⟨rfl,hx,e⟩;replace X:=X.trans e;replace Q:=F.out _ X.off;refine hK.out _ _ X.off (fun _=> ?_);refine H0 11 (by kernel_rfl) rfl rfl (fun K hK=> ?_)
 go_simp
 go_at_call 103
 refine(Qi hx).mono ?_;rintro e w7 ⟨_,_,_,_,_,rfl,v,e⟩;replace X:=X.trans e;replace Q:=F.out _ X.off;refine hK.out _ _ X.off (fun _=> ?_);refine B3 [12,13] 2 (by kernel_rfl) X.off (fun _ _ _ _ _ h=> h) ?_
 iterate 2 (refine tk rfl (by rfl) (by intro w X;go_simp;(try with_reducible rfl)) ?_;try simp only[W2])
 have R:=cbn (X.blk br);refine H0 14 (by kernel_rfl) rfl rfl (fun K hK=> ?_)
 go_simp
 refine hK.out _ _ (X.off.set3 _ _ _) (fun _=> ?_);refine B3 [15] 0 (by kernel_rfl) (X.off.set3 _ _ _) (fun _ _ _ _ _ h=> h) ?_;refine tk rfl (by rfl) (by intro w X;go_simp;(try with_reducible rfl)) ?_
 try simp only[W2]
 refine bO (by kernel_rfl) ?_ _;go_wp2_with fail;exact L7 (by simp[aS,results107,go_sem,R]) (v) (Od HR.out.symm) (d.trans X) (aR _) rfl
end Go.Proofs.YtckhbnmfnpolgaaGreat
namespace Go.Proofs.YtckhbnmfnpolgaaGreat
open Go.RowKit
open M (Hd HR Cv Ty j2 dep DG fvb Tm)
theorem Nr(t:Tm): ∀r:Nat->Nat,cnt (enc (t.ren r))=cnt (enc t):=by
 induction t <;> intro r <;> simp only[Tm.ren,enc,cnt,O1, *]
theorem Vw(t:Tm): ∀d,dep t<=d->3*cnt (enc t)+1<=4 ^ d:=by
 have up: ∀{d n:Nat},n+1<=d-> ∃e,d=e+1/\n<=e/\4 ^ d=4*4 ^ e:=fun{d n} h=> by
  obtain⟨e,rfl⟩: ∃e,d=e+1:=⟨d - 1,by omega⟩;exact⟨e,rfl,by omega,by rw[Nat.pow_succ];omega⟩
 have one: ∀{d:Nat},1<=d->4<=4 ^ d:=fun{d} h=> by
  obtain⟨e,-,-,f⟩:=up (n:=0) h;have:1<=4 ^ e:=Nat.pos_of_ne_zero (by simp);omega
 induction t with
 |var n=> intro d h;exact one h
 |sort n=> intro d h;exact one h
 |nat=> intro d h;exact one h
 |zero=> intro d h;exact one h
 |pi A B b c=> intro d h;obtain⟨e,rfl,g,f⟩:=up h;have:=b e (by omega);have:=c e (by omega);simp only[enc,cnt,O1];omega
 |lam A B b c=> intro d h;obtain⟨e,rfl,g,f⟩:=up h;have:=b e (by omega);have:=c e (by omega);simp only[enc,cnt,O1];omega
 |sg A B b c=> intro d h;obtain⟨e,rfl,g,f⟩:=up h;have:=b e (by omega);have:=c e (by omega);simp only[enc,cnt,O1];omega
 |app A B b c=> intro d h;obtain⟨e,rfl,g,f⟩:=up h;have:=b e (by omega);have:=c e (by omega);simp only[enc,cnt,O1];omega
 |succ A b=> intro d h;obtain⟨e,rfl,g,f⟩:=up h;have:=b e (by omega);simp only[enc,cnt,O1];omega
 |refl A b=> intro d h;obtain⟨e,rfl,g,f⟩:=up h;have:=b e (by omega);simp only[enc,cnt,O1];omega
 |fst A b=> intro d h;obtain⟨e,rfl,g,f⟩:=up h;have:=b e (by omega);simp only[enc,cnt,O1];omega
 |snd A b=> intro d h;obtain⟨e,rfl,g,f⟩:=up h;have:=b e (by omega);simp only[enc,cnt,O1];omega
 |elim p z s a b c i j=> intro d h;obtain⟨e,rfl,g,f⟩:=up h;have:=b e (by omega);have:=c e (by omega);have:=i e (by omega);have:=j e (by omega);simp only[enc,cnt,O1];omega
 |id p z s b c i=> intro d h;obtain⟨e,rfl,g,f⟩:=up h;have:=b e (by omega);have:=c e (by omega);have:=i e (by omega);simp only[enc,cnt,O1];omega
 |move p z s b c i=> intro d h;obtain⟨e,rfl,g,f⟩:=up h;have:=b e (by omega);have:=c e (by omega);have:=i e (by omega);simp only[enc,cnt,O1];omega
 |pair p z s b c i=> intro d h;obtain⟨e,rfl,g,f⟩:=up h;have:=b e (by omega);have:=c e (by omega);have:=i e (by omega);simp only[enc,cnt,O1];omega
def Oa:Tm->Prop
 | .sort n=> n<=3
 | .pi A B=> Oa A/\Oa B
 | .lam A B=> Oa A/\Oa B
 | .sg A B=> Oa A/\Oa B
 | .app A B=> Oa A/\Oa B
 | .succ A=> Oa A
 | .refl A=> Oa A
 | .fst A=> Oa A
 | .snd A=> Oa A
 | .elim p z s a=> Oa p/\Oa z/\Oa s/\Oa a
 | .id p z s=> Oa p/\Oa z/\Oa s
 | .move p z s=> Oa p/\Oa z/\Oa s
 | .pair p z s=> Oa p/\Oa z/\Oa s
 |_=> True
theorem Xv(t:Tm): ∀r:Nat->Nat,Oa t->Oa (t.ren r):=by
 induction t <;> intro r h <;> simp only[Tm.ren,Oa] at* <;> first|exact h|trivial|(simp_all)
theorem nq(t:Tm): ∀s:Nat->Tm,(∀n,Oa (s n))->Oa t->Oa (t.sub s):=by
 have b: ∀s:Nat->Tm,(∀n,Oa (s n))-> ∀n,Oa (Tm.ups s n):=fun s h n=> by
  cases n with
  |zero=> trivial
  |succ n=> exact Xv _ _ (h n)
 induction t <;> intro s hs h <;>(try have a:=b s hs) <;> simp only[Tm.sub,Oa] at* <;> first|exact h|trivial|exact hs _|(simp_all)
theorem bK{t u:Tm}(h:Oa t)(k:Oa u):Oa (t.inst u):=nq t _ (fun n=> by cases n;exact k;trivial) h
theorem Uw: ∀(t:Tm) (d:Int),I0 sigT (enc t) d=true->Oa t:=by
 intro t
 induction t with
 |sort n=> intro d h;have:=(m6 h).2.2.1;simp only[Oa];have g:sigT.most 2=3:=rfl;omega
 |var n=> intros;trivial
 |nat=> intros;trivial
 |zero=> intros;trivial
 |pi A B b c=> intro d h;have:=(m6 h).2.2.2;exact⟨b _ (this _ (by simp)),c _ (this _ (by simp))⟩
 |lam A B b c=> intro d h;have:=(m6 h).2.2.2;exact⟨b _ (this _ (by simp)),c _ (this _ (by simp))⟩
 |sg A B b c=> intro d h;have:=(m6 h).2.2.2;exact⟨b _ (this _ (by simp)),c _ (this _ (by simp))⟩
 |app A B b c=> intro d h;have:=(m6 h).2.2.2;exact⟨b _ (this _ (by simp)),c _ (this _ (by simp))⟩
 |succ A b=> intro d h;exact b _ ((m6 h).2.2.2 _ (by simp))
 |refl A b=> intro d h;exact b _ ((m6 h).2.2.2 _ (by simp))
 |fst A b=> intro d h;exact b _ ((m6 h).2.2.2 _ (by simp))
 |snd A b=> intro d h;exact b _ ((m6 h).2.2.2 _ (by simp))
 |elim p z s a b c e f=> intro d h;have:=(m6 h).2.2.2;exact⟨b _ (this _ (by simp)),c _ (this _ (by simp)),e _ (this _ (by simp)),f _ (this _ (by simp))⟩
 |id p z s b c e=> intro d h;have:=(m6 h).2.2.2;exact⟨b _ (this _ (by simp)),c _ (this _ (by simp)),e _ (this _ (by simp))⟩
 |move p z s b c e=> intro d h;have:=(m6 h).2.2.2;exact⟨b _ (this _ (by simp)),c _ (this _ (by simp)),e _ (this _ (by simp))⟩
 |pair p z s b c e=> intro d h;have:=(m6 h).2.2.2;exact⟨b _ (this _ (by simp)),c _ (this _ (by simp)),e _ (this _ (by simp))⟩
theorem KI{t:Tm}(h:valid sigT (enc t)=true):Oa t:=Uw t _ (N4 h).1
theorem Bo(t:Tm): ∀{n m:Nat} {s:Nat->Tm},(∀i,i < n->fvb m (s i))->(∀(k:Tm) (r:Nat->Nat) (a b:Nat),(∀i,i < a->r i < b)->fvb a k->fvb b (k.ren r))->fvb n t->fvb m (t.sub s):=by
 have g: ∀{n m:Nat} {s:Nat->Tm},(∀i,i < n->fvb m (s i))->(∀(k:Tm) (r:Nat->Nat) (a b:Nat),(∀i,i < a->r i < b)->fvb a k->fvb b (k.ren r))-> ∀i,i < n+1->fvb (m+1) (Tm.ups s i):=fun h hr i hi=> by
  cases i with
  |zero=> exact Nat.succ_pos _
  |succ i=> exact hr _ _ _ _ (fun i h=> Nat.succ_lt_succ h) (h i (by omega))
 induction t with
 |var i=> intro n m s h hr k;exact h i k
 |sort n=> intros;trivial
 |nat=> intros;trivial
 |zero=> intros;trivial
 |pi A B c d=> intro n m s h hr k;exact⟨c h hr k.1,d (g h hr) hr k.2⟩
 |lam A B c d=> intro n m s h hr k;exact⟨c h hr k.1,d (g h hr) hr k.2⟩
 |sg A B c d=> intro n m s h hr k;exact⟨c h hr k.1,d (g h hr) hr k.2⟩
 |app A B c d=> intro n m s h hr k;exact⟨c h hr k.1,d h hr k.2⟩
 |succ A c=> intro n m s h hr k;exact c h hr k
 |refl A c=> intro n m s h hr k;exact c h hr k
 |fst A c=> intro n m s h hr k;exact c h hr k
 |snd A c=> intro n m s h hr k;exact c h hr k
 |elim p z f a c d e j=> intro n m s h hr k;exact⟨c h hr k.1,d h hr k.2.1,e h hr k.2.2.1,j h hr k.2.2.2⟩
 |id p z f c d e=> intro n m s h hr k;exact⟨c h hr k.1,d h hr k.2.1,e h hr k.2.2⟩
 |move p z f c d e=> intro n m s h hr k;exact⟨c h hr k.1,d h hr k.2.1,e h hr k.2.2⟩
 |pair p z f c d e=> intro n m s h hr k;exact⟨c h hr k.1,d h hr k.2.1,e h hr k.2.2⟩
theorem ox(t:Tm): ∀(r:Nat->Nat) (a b:Nat),(∀i,i < a->r i < b)->fvb a t->fvb b (t.ren r):=by
 have f: ∀{r:Nat->Nat} {a b:Nat},(∀i,i < a->r i < b)-> ∀i,i < a+1->Tm.upr r i < b+1:=fun h i hi=> by
  cases i with
  |zero=> exact Nat.succ_pos _
  |succ i=> exact Nat.succ_lt_succ (h i (by omega))
 induction t with
 |var i=> intro r n m h k;exact h i k
 |sort n=> intros;trivial
 |nat=> intros;trivial
 |zero=> intros;trivial
 |pi A B c d=> intro r n m h k;exact⟨c r _ _ h k.1,d _ _ _ (f h) k.2⟩
 |lam A B c d=> intro r n m h k;exact⟨c r _ _ h k.1,d _ _ _ (f h) k.2⟩
 |sg A B c d=> intro r n m h k;exact⟨c r _ _ h k.1,d _ _ _ (f h) k.2⟩
 |app A B c d=> intro r n m h k;exact⟨c r _ _ h k.1,d r _ _ h k.2⟩
 |succ A c=> intro r n m h k;exact c r _ _ h k
 |refl A c=> intro r n m h k;exact c r _ _ h k
 |fst A c=> intro r n m h k;exact c r _ _ h k
 |snd A c=> intro r n m h k;exact c r _ _ h k
 |elim p z s a c d e g=> intro r n m h k;exact⟨c r _ _ h k.1,d r _ _ h k.2.1,e r _ _ h k.2.2.1,g r _ _ h k.2.2.2⟩
 |id p z s c d e=> intro r n m h k;exact⟨c r _ _ h k.1,d r _ _ h k.2.1,e r _ _ h k.2.2⟩
 |move p z s c d e=> intro r n m h k;exact⟨c r _ _ h k.1,d r _ _ h k.2.1,e r _ _ h k.2.2⟩
 |pair p z s c d e=> intro r n m h k;exact⟨c r _ _ h k.1,d r _ _ h k.2.1,e r _ _ h k.2.2⟩
theorem nH{t u:Tm}{n:Nat}(h:fvb (n+1) t)(k:fvb n u):fvb n (t.inst u):=Bo t (fun i hi=> by
 cases i with
 |zero=> exact k
 |succ i=> exact Nat.lt_of_succ_lt_succ hi) ox h
theorem CD: ∀(t:Tm) (n d:Nat),fvb n t->Oa t->dep t<=d->n+d<=21->I0 sigT (enc t) d=true:=by
 have g: ∀{d m:Nat},m+1<=d-> ∃e:Nat,d=e+1/\m<=e/\((e+1:Nat):Int) - 1=(e:Int)/\decide (1<=((e+1:Nat):Int))=true:=fun{d m} h=>⟨d - 1,by omega,by omega,by omega,decide_eq_true (by omega)⟩
 intro t
 induction t with
 |var i=>
  intro n d h _ hd hn;have:i < n:=h;obtain⟨e,rfl,-,c,b⟩:=g hd;simp only[enc,I0,ma,b,Nj,bV,dY,aX,decide_eq_true_eq];refine⟨rfl, ?_⟩;simp only[ac,aX,decide_eq_true_eq];have o:sigT.most 1=20:=rfl;omega
 |sort i=>
  intro n d _ h hd hn;have:i<=3:=h;obtain⟨e,rfl,-,c,b⟩:=g hd;simp only[enc,I0,ma,b,Nj,bV,dY,aX,decide_eq_true_eq];refine⟨rfl, ?_⟩;simp only[ac,aX,decide_eq_true_eq];have o:sigT.most 2=3:=rfl;omega
 |nat=> intro n d _ _ hd _;obtain⟨e,rfl,-,c,b⟩:=g hd;simp only[enc,I0,ma,b,bV,dY];rfl
 |zero=> intro n d _ _ hd _;obtain⟨e,rfl,-,c,b⟩:=g hd;simp only[enc,I0,ma,b,bV,dY];rfl
 |pi A B f j=> intro n d h s hd hn;obtain⟨e,rfl,k,c,b⟩:=g hd;simp only[enc,I0,ma,c,b,f n e h.1 s.1 (by omega) (by omega),j (n+1) e h.2 s.2 (by omega) (by omega),bV,dY];rfl
 |lam A B f j=> intro n d h s hd hn;obtain⟨e,rfl,k,c,b⟩:=g hd;simp only[enc,I0,ma,c,b,f n e h.1 s.1 (by omega) (by omega),j (n+1) e h.2 s.2 (by omega) (by omega),bV,dY];rfl
 |sg A B f j=> intro n d h s hd hn;obtain⟨e,rfl,k,c,b⟩:=g hd;simp only[enc,I0,ma,c,b,f n e h.1 s.1 (by omega) (by omega),j (n+1) e h.2 s.2 (by omega) (by omega),bV,dY];rfl
 |app A B f j=> intro n d h s hd hn;obtain⟨e,rfl,k,c,b⟩:=g hd;simp only[enc,I0,ma,c,b,f n e h.1 s.1 (by omega) (by omega),j n e h.2 s.2 (by omega) (by omega),bV,dY];rfl
 |succ A f=> intro n d h s hd hn;obtain⟨e,rfl,k,c,b⟩:=g hd;simp only[enc,I0,ma,c,b,f n e h s k (by omega),bV,dY];rfl
 |refl A f=> intro n d h s hd hn;obtain⟨e,rfl,k,c,b⟩:=g hd;simp only[enc,I0,ma,c,b,f n e h s k (by omega),bV,dY];rfl
 |fst A f=> intro n d h s hd hn;obtain⟨e,rfl,k,c,b⟩:=g hd;simp only[enc,I0,ma,c,b,f n e h s k (by omega),bV,dY];rfl
 |snd A f=> intro n d h s hd hn;obtain⟨e,rfl,k,c,b⟩:=g hd;simp only[enc,I0,ma,c,b,f n e h s k (by omega),bV,dY];rfl
 |elim p z t a f j l q=> intro n d h s hd hn;obtain⟨e,rfl,k,c,b⟩:=g hd;simp only[enc,I0,ma,c,b,f n e h.1 s.1 (by omega) (by omega),j n e h.2.1 s.2.1 (by omega) (by omega),l n e h.2.2.1 s.2.2.1 (by omega) (by omega),q n e h.2.2.2 s.2.2.2 (by omega) (by omega),bV,dY];rfl
 |id p z t f j l=> intro n d h s hd hn;obtain⟨e,rfl,k,c,b⟩:=g hd;simp only[enc,I0,ma,c,b,f n e h.1 s.1 (by omega) (by omega),j n e h.2.1 s.2.1 (by omega) (by omega),l n e h.2.2 s.2.2 (by omega) (by omega),bV,dY];rfl
 |move p z t f j l=> intro n d h s hd hn;obtain⟨e,rfl,k,c,b⟩:=g hd;simp only[enc,I0,ma,c,b,f n e h.1 s.1 (by omega) (by omega),j n e h.2.1 s.2.1 (by omega) (by omega),l n e h.2.2 s.2.2 (by omega) (by omega),bV,dY];rfl
 |pair p z t f j l=> intro n d h s hd hn;obtain⟨e,rfl,k,c,b⟩:=g hd;simp only[enc,I0,ma,c,b,f n e h.1 s.1 (by omega) (by omega),j n e h.2.1 s.2.1 (by omega) (by omega),l n e h.2.2 s.2.2 (by omega) (by omega),bV,dY];rfl
theorem mF{t:Tm}{n:Nat}(h:fvb n t)(s:Oa t)(hn:n+dep t<=21)(hc:cnt (enc t)<=400):valid sigT (enc t)=true:=by
 unfold valid;rw[Qz (CD t n (dep t) h s (Nat.le_refl _) hn) (by omega),bV,decide_eq_true_eq];exact hc
