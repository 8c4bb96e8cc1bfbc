/-
  Lemmas towards the law, 31: SInfA, InfH, MVal.
-/
import Derived.Test.YtckhbnmfnpolgaaGreatBBD
open Go renaming World->aK,Calls->aV,results->aQ,wpAnyH_done->bP,maxLen->aU
open Go.World renaming alloc->aN
open Option.some renaming inj->bZ
open Nat renaming le_succ->aP
open Go.IntWalk renaming i64_in->dR
open Bool renaming true_and->bQ,and_true->dM,and_eq_true->aW
open Go.Proofs.Tryz
set_option linter.unusedVariables false
set_option maxHeartbeats 8000000
set_option maxRecDepth 100000
namespace Go.Proofs.YtckhbnmfnpolgaaGreat
open Go Go.RowKit
attribute [local go_sem ↓] Go.wp_at_zero Go.wp_at_succ
theorem Tt{f:Nat}(p:k9 f){G:List Tr}{A:Option Addr}{ca:Nat}(b:aK)(N:Nat->Prop)(i:SJ b N A G ca)(t:Tr)(v:Value)(hT:InT b N t v)(r:Tr×Int)(h:V0 (M0 f G t) 2=some r):aV prog 128 #[.slice A G.length ca,v] b fun e E=> e= .returned (.tuple #[.int .i64 r.1.num,.int .i64 r.2])/\Ext b E:=by
 have q:=hdq hT;obtain⟨k,n,P⟩:=t;obtain⟨At,ct,rfl,-⟩:=InT.mk_iff.1 hT;clear hT;obtain⟨s,c,j,l,o⟩:=k8 h;clear h;go_enter func128,ntmps128;go_wp2_with fail;generalize g:aN b _=O;obtain⟨m,X⟩:=nb g;have Q:=cb3 m;clear g;refine(p _ _ _ j.out _ _ A ca _ (i.ext X) (q.out.later X)).mono ?_;rintro e x ⟨u,rfl,hT,e⟩;obtain⟨_,_,_,_,_,rfl⟩:=hT.three;replace X:=X.trans e;clear Q m;simp only;obtain⟨a,t⟩ |rfl:=cz c
 · obtain rfl:=o.out a.out
   go_wp2_with fail;go_ret2;exact⟨rfl,X.alloc _⟩
 obtain⟨w,H,I,d,z,y,C,F⟩:=Zn (bZ (l.out rfl));clear j l o;go_wp2_with fail;generalize g:aN x _=L;obtain⟨D,e⟩:=nb g;clear g;refine(Qj z.out _ _ (i.ext (X.trans e)).hN _ (hT.later e).lies').mono ?_;rintro R K ⟨M,J,rfl,-,-,B⟩;replace X:=(X.trans e).trans B;clear hT e D;simp only;obtain⟨a,t⟩ |rfl:=cz d
 · obtain rfl:=y.out a.out
   go_wp2_with fail;go_ret2;exact⟨rfl,X.alloc _⟩
 obtain⟨a,t⟩ |rfl:=czk w 2
 · obtain rfl:=C.out (by trivial) a.out
   go_wp2_with fail;go_ret2;exact⟨rfl,X.alloc _⟩
 obtain rfl:=F.out (by trivial) (by trivial);go_wp2_with fail;go_ret2;exact⟨rfl,X.alloc _⟩
theorem DD{f:Nat}(D:k9 f){G:List Tr}{A:Option Addr}{ca:Nat}(i:aK)(N:Nat->Prop)(l:SJ i N A G ca)(t:Tr)(v:Value)(hT:InT i N t v)(kind:Int)(r:Tr×Int)(h:V0 (M0 f G t) kind=some r):aV prog 188 #[.slice A G.length ca,v,.int .i64 kind] i (N9 N i r):=by
 have E:=hdq hT;obtain⟨k,n,T⟩:=t;obtain⟨At,ct,rfl,-⟩:=InT.mk_iff.1 hT;clear hT;obtain⟨s,c,m,q,y⟩:=k8 h;clear h;go_enter func188,ntmps188;go_wp2_with fail;generalize j:aN (aN i _) _=J;obtain⟨b,br,S⟩:=Yd j.symm l;have F:=hdq (S);have X:=xr J;have Q:=F.out _ X.off;clear S l j;refine(D _ _ _ m.out _ _ A ca _ Q.1 (E.out.keep (b.trans X) (aP _))).mono ?_;rintro e H ⟨u,rfl,hT,e⟩;replace X:=X.trans e;replace Q:=F.out _ X.off;obtain⟨_,_,_,_,_,rfl⟩:=hT.three;simp only;obtain⟨g,t⟩ |rfl:=cz c
 · have R:=cbn (X.blk br)
   have a:=fun o=> cbn ((X.alloc o).blk br)
   go_wp2_with fail;exact ya (by simp[aQ,results188,go_sem,R,a]) (y.out g.out) (((b.trans X).alloc _).set3 (aP _) _ _ _) rfl
 obtain⟨p,K,L,d,x,w,z,C⟩:=Zn (bZ (q.out rfl));clear m q y;go_wp2_with fail;generalize j:aN H _=I;obtain⟨B,e⟩:=nb j;replace F:=hdq (both (rb F.out (X.trans e)) (both (U9 B (X.ne br)) (hT.up e)));replace X:=X.trans e;replace br:=X.blk br;replace b:=b.trans X;replace X:=xr I;replace Q:=F.out _ X.off;clear j B e;clear hT;refine(Qj x.out _ _ Q.1.1.hN _ Q.2.2.lies').mono ?_;rintro e O ⟨P,M,rfl,hK,-,e⟩;replace X:=X.trans e;replace Q:=F.out _ X.off;simp only;obtain⟨g,t⟩ |rfl:=cz d
 · have R:=cbn (X.blk br)
   have a:=fun o=> cbn ((X.alloc o).blk br)
   go_wp2_with fail;exact ya (by simp[aQ,results188,go_sem,R,a]) (w.out g.out) (((b.trans X).alloc _).set3 (aP _) _ _ _) rfl
 obtain⟨g,t⟩ |hk:=czk p kind
 · have R:=cbn (X.blk br)
   have a:=fun o=> cbn ((X.alloc o).blk br)
   go_wp2_with fail;exact ya (by simp[aQ,results188,go_sem,R,a]) (z.out (by trivial) g.out) (((b.trans X).alloc _).set3 (aP _) _ _ _) rfl
 have HR:=hdq (C.out (by trivial) hk);have t:=(show(p !=kind)=false by simp[hk]);clear x w z C hk;have R:=cbn (X.blk br);have a:=fun o=> cbn ((X.alloc o).blk br)
 go_wp2_with fail;exact n7 (by simp[aQ,results188,go_sem,R,a]) (hK.later ((xr _).alloc _)) (HR.out) ((b.trans X).alloc _) (aP _) rfl
theorem nG{x:An}{a:Tr}{c:Int}(h:Ba x a=some c): ∃s d,x=some (s,d)/\(d=0->c=V3 s a)/\(d≠0->c=d):=by
 rcases Ys h with⟨s,rfl,b⟩ |⟨s,rfl,b⟩
 · exact⟨s,0,rfl,fun _=> b,fun h=> absurd rfl h⟩
 · exact⟨s,c,rfl,fun h=> absurd h b,fun _=> rfl⟩
theorem cl{f:Nat}(z:k9 f){G:List Tr}{A:Option Addr}{ca:Nat}(b:aK)(N:Nat->Prop)(y:SJ b N A G ca)(t a:Tr)(v r:Value)(hT:InT b N t v)(i:Lies b a r)(c:Int)(h:Ba (M0 f G t) a=some c):aV prog 116 #[.slice A G.length ca,v,r] b fun e H=> e= .returned (.int .i64 c)/\Ext b H:=by
 have B:=hdq hT;obtain⟨k,n,U⟩:=t;obtain⟨At,ct,rfl,-⟩:=InT.mk_iff.1 hT;have I:=hdq i;obtain⟨J,L,O⟩:=a;obtain⟨M,T,rfl,-⟩:=Lies.mk_iff.1 i;clear hT i;obtain⟨s,d,l,q,x⟩:=nG h;clear h;have m:=hdq l;clear l;have o:=hdq q;clear q;have w:=hdq x;clear x;go_enter func116,ntmps116;go_wp2_with fail;generalize g:aN (aN b _) _=R;obtain⟨p,C,-,X⟩:=box2 g.symm;have Q:=cb3 p;clear g;refine(z _ _ _ m.out _ _ A ca _ (y.ext X) (B.out.later X)).mono ?_;rintro e E ⟨u,rfl,hT,e⟩;obtain⟨_,_,_,_,_,rfl⟩:=hT.three;replace X:=X.trans e;replace Q:=cb3 (e.blk C);clear p;simp only;obtain⟨D,t⟩ |rfl:=cz d
 · obtain rfl:=w.out D.out
   go_wp2_with fail;go_ret;exact⟨rfl,X.alloc _⟩
 obtain rfl:=o.out rfl;clear m o w;go_wp2_with fail;generalize g:aN E _=P;obtain⟨S,j⟩:=nb g;clear g;refine(Oy s _ _ _ _ (hT.later j).lies' (I.out.ext (X.trans j))).mono ?_;rintro V K ⟨rfl,F⟩;replace X:=(X.trans j).trans F;go_wp2_with fail;go_ret;exact⟨rfl,X⟩
theorem bJ{f:Nat}(HI:k9 f){G:List Tr}{A:Option Addr}{ca:Nat}(g:aK)(N:Nat->Prop)(C:SJ g N A G ca)(t T:Tr)(v O:Value)(hT:InT g N t v)(o:Lies g T O)(c:Int)(h:af (M0 f G t) T=some c):aV prog 189 #[.slice A G.length ca,v,O] g fun e w'=> e= .returned (.int .i64 c)/\Ext g w':=by
 have HT:=hdq hT;obtain⟨k,n,ks⟩:=t;obtain⟨At,ct,rfl,-⟩:=InT.mk_iff.1 hT;have V:=hdq o;obtain⟨U,R,E⟩:=T;obtain⟨Aw,cw,rfl,-⟩:=Lies.mk_iff.1 o;clear hT o;obtain⟨s,d,q,J,m⟩:=aB h;clear h;go_enter func189,ntmps189;go_wp2_with fail;generalize p:aN (aN g _) _=w1;obtain⟨b,br,S⟩:=XH p.symm C;have F:=hdq (S);have X:=xr w1;have Q:=F.out _ X.off;clear S C p;refine(DD HI _ _ Q.1 _ _ (HT.out.keep (b.trans X) (Nat.le_refl _)) 3 _ q.out).mono ?_;rintro e w2 ⟨u,rfl,hT,e⟩;replace X:=X.trans e;replace Q:=F.out _ X.off;obtain⟨ka,na,j⟩:=s;obtain⟨A1,c1,rfl,-,-,hK⟩:=InT.mk_iff.1 hT;clear hT;simp only at hK⊢;obtain⟨i,t⟩ |rfl:=cz d
 · obtain rfl:=m.out i.out
   go_wp2_with fail;go_ret;exact⟨rfl,(b.trans X).alloc _⟩
 obtain⟨-,a,-⟩:=sm q.out;obtain⟨y,B⟩:=J.out rfl;simp only[Tr.kids] at a hK y B;have a:j.length=2:=by have:O0 3=2:=rfl;omega
 have m:=hdq y;have r:=hdq B;clear q J y B;obtain⟨b2,o2,rfl,z,⟨ul,sk,si,ui,un,D⟩,Z,f12,f13,f14,f15,I⟩:=q17 hK a;rw[a];clear hK a;go_wp2_with fail;generalize p:aN w2 _=w3;obtain⟨H,e⟩:=nb p;replace F:=hdq (both (rb F.out (X.trans e)) (both (U9 H (X.ne br)) (both (D.fm z e) (I.fm z e))));replace X:=X.trans e;replace br:=X.blk br;replace b:=b.trans X;replace X:=xr w3;replace Q:=F.out _ X.off;clear p H e;clear D I z;have x:=hdq (fun W (o:Ext g W) v (hv:Lies W (kd j 0) v)=> Oy (kd j 0) (.mk U R E) W _ _ hv (V.out.ext o));generalize V3 (kd j 0) (.mk U R E)=cv at x m r;obtain⟨Y,nx,gy,dx,G1,L,M,P⟩:=Zn (s:=kd j 1) (kind:=2) rfl;generalize d4 (kd j 1) 2=sh at m L M P;refine rgn g.heap.size (by kernel_rfl) X ?_;replace X:=X.drew;refine W2 [0,1,2,3,4] 2 (by kernel_rfl) X.off (fun _ _ _ _ _ h=> h) ?_
 iterate 5 (refine tk rfl (by rfl) (by intro w X;have Q:=F.out _ X;go_simp;(try with_reducible rfl)) ?_;try simp only[I3])
 replace Q:=F.out _ X.off;refine H0 5 (by kernel_rfl) rfl rfl (fun K hK=> ?_)
 go_simp
 go_at_call 81
 refine(x.out _ (b.trans X) _ Q.2.2.1.l).mono ?_;rintro e w4 ⟨rfl,e⟩;replace X:=X.trans e;replace Q:=F.out _ X.off;refine hK.out _ _ X.off (fun _=> ?_);clear hK K;refine W2 [6] 0 (by kernel_rfl) X.off (fun _ _ _ _ _ h=> h) ?_;refine tk rfl (by rfl) (by intro w X;go_simp;(try with_reducible rfl)) ?_
 try simp only[I3]
 refine bP (by kernel_rfl) ?_ _;obtain⟨i,t⟩ |rfl:=cz cv
 · obtain rfl:=r.out i.out
   go_wp2_with fail;go_ret;exact⟨rfl,(b.trans X)⟩
 obtain rfl:=m.out (by trivial);clear m r x;go_wp2_with fail;refine(Qj G1.out _ _ Q.1.1.hN _ Q.2.2.2.l).mono ?_;rintro e w5 ⟨A3,c3,rfl,-,-,e⟩;replace X:=X.trans e;replace Q:=F.out _ X.off;simp only;obtain⟨i,t⟩ |rfl:=cz dx
 · obtain rfl:=L.out i.out
   go_wp2_with fail;go_ret;exact⟨rfl,(b.trans X).alloc _⟩
 obtain⟨i,t⟩ |rfl:=czk Y 2
 · obtain rfl:=M.out (by trivial) i.out
   go_wp2_with fail;go_ret;exact⟨rfl,(b.trans X).alloc _⟩
 obtain rfl:=P.out (by trivial) (by trivial);go_wp2_with fail;go_ret;exact⟨rfl,(b.trans X).alloc _⟩
theorem JG(a b:Int)(w:aK):aV prog 187 #[.int .i64 a,.int .i64 b] w fun e c=> e= .returned (.int .i64 (max a b))/\Ext w c:=by
 by_cases h:b < a
 · have d:decide (b < a)=true:=decide_eq_true h
   have e:max a b=a:=by omega
   rw[e];go_enter func187,ntmps187;go_wp2_with fail;go_ret;exact⟨rfl,xr _⟩
 · have d:decide (b < a)=false:=decide_eq_false h
   have e:max a b=b:=by omega
   rw[e];go_enter func187,ntmps187;go_wp2_with fail;go_ret;exact⟨rfl,xr _⟩
def GG(k:Int):Nat:=if k=3 then 142 else if k=13 then 142 else if k=4 then 143 else if k=9 then 147 else if k=10 then 148 else if k=12 then 149 else if k=14 then 150 else if k=15 then 151 else 151
theorem Un{s:aK}{i f:Nat}{A:Option Addr}{G:List Tr}{At:Option Addr}{d:List Tr}{ty:Nat->An}(k n:Int)(ca ct:Nat)(t:d.length<=ct)(y:ct<=aU)(a:aK)(N:Nat->Prop)(l:Rb s a N i f A G At d ty)(hk:k=3\/k=13\/k=4\/k=9\/k=10\/k=12\/k=14\/k=15\/k=16)(r:Tr×Int)(hc: ∀c,c=GG k-> ∀w M,Rb s w M i f A G At d ty->aV prog c #[.agg #[.slice A G.length ca,.int .i64 k,.int .i64 n,.slice At d.length ct,.func (.func 105) #[] #[.pointer (some ⟨i,0,none⟩),.pointer (some ⟨f,0,none⟩)]]] w (N9 M w r)):aV prog 107 #[.agg #[.slice A G.length ca,.int .i64 k,.int .i64 n,.slice At d.length ct,.func (.func 105) #[] #[.pointer (some ⟨i,0,none⟩),.pointer (some ⟨f,0,none⟩)]]] a (N9 N a r):=by
 have v:=hdq hc;clear hc;obtain rfl|rfl|rfl|rfl|rfl|rfl|rfl|rfl|rfl:=hk
 all_goals
  go_enter func107,ntmps107;go_wp2_with fail;generalize b:aN (aN a _) _=o;obtain⟨j,br,S⟩:=Ue b.symm l.hN;have m:=hdq (l.keep j (g:=a.heap.size+1) (aP _) (O1 br));have q:o.heap.size=a.heap.size+1+1:=by rw[<-b];simp
  clear l;have F:=hdq (S);have X:=xr o;have Q:=F.out _ X.off;clear S b;generalize b:aN o _=x;obtain⟨p,e⟩:=nb b;rw[q] at p;clear q;replace F:=hdq (both (rb F.out (X.trans e)) (U9 p (by omega)));replace X:=X.trans e;replace m:=hdq (m.out.ext X);replace br:=X.blk br;replace j:=j.trans X;replace X:=xr x;replace Q:=F.out _ X.off;clear b p e;refine(v.out _ rfl _ _ (m.out.ext X)).mono ?_;rintro e z ⟨u,rfl,hT,e⟩;replace X:=X.trans e;replace Q:=F.out _ X.off;obtain⟨_,_,_,_,_,rfl⟩:=hT.three;have R:=cbn (X.blk br);go_wp2_with fail;exact n7 (by simp[aQ,results107,go_sem,R]) (hT) (rfl) (j.trans X) (aP _) rfl
theorem YG{q:aK}{o l:Nat}{A:Option Addr}{G:List Tr}{At:Option Addr}{j:List Tr}{ty:Nat->An}(n:Int)(ca ct:Nat)(s:j.length<=ct)(u:ct<=aU)(a:aK)(N:Nat->Prop)(d:Rb q a N o l A G At j ty)(x:0<=n)(v:n<=3)(r:Tr×Int)(h:some (if n=3 then(E2,1) else(m6 (n+1),0))=some r):aV prog 107 #[.agg #[.slice A G.length ca,.int .i64 2,.int .i64 n,.slice At j.length ct,.func (.func 105) #[] #[.pointer (some ⟨o,0,none⟩),.pointer (some ⟨l,0,none⟩)]]] a (N9 N a r):=by
 by_cases hn:n=3
 · obtain rfl:r=(E2,1):=by rw[if_pos hn] at h;simpa using h.symm
   have t1:(n==3)=true:=beq_iff_eq.2 hn;clear h hn;go_enter func107,ntmps107;go_wp2_with fail;exact ya (by simp[aQ,results107,go_sem,eJ]) rfl ((((xr _).alloc _).alloc _).alloc _) rfl
 obtain rfl:r=(m6 (n+1),0):=by rw[if_neg hn] at h;simpa using h.symm
 have t1:(n==3)=false:=beq_eq_false_iff_ne.2 hn;have p:IntKind.i64.wrap (n+1)=n+1:=dR _ ⟨by omega,by omega⟩;clear h hn;go_enter func107,ntmps107;go_wp2_with fail;generalize b:aN (aN a _) _=f;obtain⟨c,br,S⟩:=Ue b.symm d.hN;have m:=hdq (d.keep c (g:=a.heap.size+1) (aP _) (O1 br));have k:f.heap.size=a.heap.size+1+1:=by rw[<-b];simp
 clear d;have F:=hdq (S);have X:=xr f;have Q:=F.out _ X.off;clear S b;generalize b:aN f _=t;obtain⟨i,e⟩:=nb b;rw[k] at i;clear k;replace F:=hdq (both (rb F.out (X.trans e)) (U9 i (by omega)));replace X:=X.trans e;replace m:=hdq (m.out.ext X);replace br:=X.blk br;replace c:=c.trans X;replace X:=xr t;replace Q:=F.out _ X.off;clear b i e;refine(vm (n+1) _).mono ?_;rintro e w ⟨rfl,e⟩;replace X:=X.trans e;replace Q:=F.out _ X.off;have R:=cbn (X.blk br);go_wp2_with fail;exact n7 (by simp[aQ,results107,go_sem,R]) (F5 _ _ 2 (n+1)) (rfl) (c.trans X) (aP _) rfl
theorem LH{p:aK}{o l:Nat}{A:Option Addr}{G:List Tr}{At:Option Addr}{j:List Tr}{ty:Nat->An}(n:Int)(ca ct:Nat)(q:j.length<=ct)(t:ct<=aU)(a:aK)(N:Nat->Prop)(d:Rb p a N o l A G At j ty)(r:Tr×Int)(h:some (m6 0,0)=some r):aV prog 107 #[.agg #[.slice A G.length ca,.int .i64 6,.int .i64 n,.slice At j.length ct,.func (.func 105) #[] #[.pointer (some ⟨o,0,none⟩),.pointer (some ⟨l,0,none⟩)]]] a (N9 N a r):=by
 obtain rfl:r=(m6 0,0):=by simpa using h.symm
 clear h;go_enter func107,ntmps107;go_wp2_with fail;generalize b:aN (aN a _) _=f;obtain⟨c,br,S⟩:=Ue b.symm d.hN;have m:=hdq (d.keep c (g:=a.heap.size+1) (aP _) (O1 br));have k:f.heap.size=a.heap.size+1+1:=by rw[<-b];simp
 clear d;have F:=hdq (S);have X:=xr f;have Q:=F.out _ X.off;clear S b;generalize b:aN f _=s;obtain⟨i,e⟩:=nb b;rw[k] at i;clear k;replace F:=hdq (both (rb F.out (X.trans e)) (U9 i (by omega)));replace X:=X.trans e;replace m:=hdq (m.out.ext X);replace br:=X.blk br;replace c:=c.trans X;replace X:=xr s;replace Q:=F.out _ X.off;clear b i e;refine(vm 0 _).mono ?_;rintro e u ⟨rfl,e⟩;replace X:=X.trans e;replace Q:=F.out _ X.off;have R:=cbn (X.blk br);go_wp2_with fail;exact n7 (by simp[aQ,results107,go_sem,R]) (F5 _ _ 2 0) (rfl) (c.trans X) (aP _) rfl
theorem bI{p:aK}{o l:Nat}{A:Option Addr}{G:List Tr}{At:Option Addr}{j:List Tr}{ty:Nat->An}(n:Int)(ca ct:Nat)(q:j.length<=ct)(t:ct<=aU)(a:aK)(N:Nat->Prop)(d:Rb p a N o l A G At j ty)(r:Tr×Int)(h:some (i5,0)=some r):aV prog 107 #[.agg #[.slice A G.length ca,.int .i64 7,.int .i64 n,.slice At j.length ct,.func (.func 105) #[] #[.pointer (some ⟨o,0,none⟩),.pointer (some ⟨l,0,none⟩)]]] a (N9 N a r):=by
 obtain rfl:r=(i5,0):=by simpa using h.symm
 clear h;go_enter func107,ntmps107;go_wp2_with fail;generalize b:aN (aN a _) _=f;obtain⟨c,br,S⟩:=Ue b.symm d.hN;have m:=hdq (d.keep c (g:=a.heap.size+1) (aP _) (O1 br));have k:f.heap.size=a.heap.size+1+1:=by rw[<-b];simp
 clear d;have F:=hdq (S);have X:=xr f;have Q:=F.out _ X.off;clear S b;generalize b:aN f _=s;obtain⟨i,e⟩:=nb b;rw[k] at i;clear k;replace F:=hdq (both (rb F.out (X.trans e)) (U9 i (by omega)));replace X:=X.trans e;replace m:=hdq (m.out.ext X);replace br:=X.blk br;replace c:=c.trans X;replace X:=xr s;replace Q:=F.out _ X.off;clear b i e;refine(Oe _ 6 none 0 0).mono ?_;rintro e u ⟨rfl,e⟩;replace X:=X.trans e;replace Q:=F.out _ X.off;have R:=cbn (X.blk br);go_wp2_with fail;exact n7 (by simp[aQ,results107,go_sem,R]) (F5 _ _ 6 0) (rfl) (c.trans X) (aP _) rfl
theorem RG{z:aK}{u p:Nat}{A:Option Addr}{G:List Tr}{At:Option Addr}{f:List Tr}{ty:Nat->An}(n:Int)(ca ct:Nat)(j:f.length<=ct)(y:ct<=aU)(a:aK)(N:Nat->Prop)(i:Rb z a N u p A G At f ty)(v:f.length=1)(r:Tr×Int)(h:P3 (ty 0) i5 (some (i5,0))=some r):aV prog 107 #[.agg #[.slice A G.length ca,.int .i64 8,.int .i64 n,.slice At f.length ct,.func (.func 105) #[] #[.pointer (some ⟨u,0,none⟩),.pointer (some ⟨p,0,none⟩)]]] a (N9 N a r):=by
 have D:=hdq v;clear v;obtain⟨c,q,s,x⟩:=Mc h;clear h;go_enter func107,ntmps107;go_wp2_with fail;generalize b:aN (aN a _) _=l;obtain⟨d,br,S⟩:=Ue b.symm i.hN;have k:=hdq (i.keep d (g:=a.heap.size+1) (aP _) (O1 br));have o:l.heap.size=a.heap.size+1+1:=by rw[<-b];simp
 clear i;have F:=hdq (S);have X:=xr l;have Q:=F.out _ X.off;clear S b;generalize b:aN l _=C;obtain⟨m,e⟩:=nb b;rw[o] at m;clear o;replace F:=hdq (both (rb F.out (X.trans e)) (U9 m (by omega)));replace X:=X.trans e;replace k:=hdq (k.out.ext X);replace br:=X.blk br;replace d:=d.trans X;replace X:=xr C;replace Q:=F.out _ X.off;clear b m e;refine rgn (a.heap.size+1) (by kernel_rfl) X ?_;replace X:=X.drew;refine W2 [0] 3 (by kernel_rfl) X.off (fun _ _ _ _ _ h=> h) ?_;refine tk rfl (by rfl) (by intro w X;have Q:=F.out _ X;go_simp;(try with_reducible rfl)) ?_
 try simp only[I3]
 replace Q:=F.out _ X.off;refine H0 1 (by kernel_rfl) rfl rfl (fun K hK=> ?_)
 go_simp
 go_at_call 56
 refine(Oe _ 6 none 0 0).mono ?_;rintro e H ⟨rfl,e⟩;replace X:=X.trans e;replace Q:=F.out _ X.off;refine hK.out _ _ X.off (fun _=> ?_);clear hK K;refine H0 2 (by kernel_rfl) rfl rfl (fun K hK=> ?_)
 go_simp
 go_at_call 141
 refine(qD 8 n ca ct j y _ _ (k.out.ext X) 0 (by rw[D.out];decide) i5 _ (F5 _ _ 6 0) c q.out).mono ?_;rintro e E ⟨rfl,e⟩;replace X:=X.trans e;replace Q:=F.out _ X.off;refine hK.out _ _ X.off (fun _=> ?_);clear hK K;refine W2 [3] 0 (by kernel_rfl) X.off (fun _ _ _ _ _ h=> h) ?_;refine tk rfl (by rfl) (by intro w X;go_simp;(try with_reducible rfl)) ?_
 try simp only[I3]
 refine bP (by kernel_rfl) ?_ _;obtain⟨B,t⟩ |rfl:=cz c
 · have R:=cbn (X.blk br)
   go_wp2_with fail;exact ya (by simp[aQ,results107,go_sem,R]) (x.out B.out) ((d.trans X).set3 (aP _) _ _ _) rfl
 obtain rfl:=bZ (s.out rfl);clear q s x;go_wp2_with fail;refine(Oe _ 6 none 0 0).mono ?_;rintro e I ⟨rfl,e⟩;replace X:=X.trans e;replace Q:=F.out _ X.off;have R:=cbn (X.blk br);go_wp2_with fail;exact n7 (by simp[aQ,results107,go_sem,R]) (F5 _ _ 6 0) (rfl) (d.trans X) (aP _) rfl
theorem TD{M:aK}{I C:Nat}{A:Option Addr}{G:List Tr}{At:Option Addr}{t:List Tr}{ty:Nat->An}(n:Int)(ca ct:Nat)(O:t.length<=ct)(W:ct<=aU)(b:aK)(N:Nat->Prop)(k:Rb M b N I C A G At t ty)(L:0<=n)(z:n<=20)(ii: ∀x∈G,j0 m0 x=true)(B:G.length<=ca)(a:ca<=aU)(r:Tr×Int)(h:some (Xg G n)=some r):aV prog 107 #[.agg #[.slice A G.length ca,.int .i64 1,.int .i64 n,.slice At t.length ct,.func (.func 105) #[] #[.pointer (some ⟨I,0,none⟩),.pointer (some ⟨C,0,none⟩)]]] b (N9 N b r):=by
 unfold aU at a;by_cases c:(G.length:Int)<=n
 · obtain rfl:r=(E2,1):=by unfold Xg at h;rw[if_pos c] at h;simpa using h.symm
   have t1:decide ((G.length:Int)<=n)=true:=decide_eq_true c;clear h c ii L z B a;go_enter func107,ntmps107;go_wp2_with fail;exact ya (by simp[aQ,results107,go_sem,eJ]) rfl ((((xr _).alloc _).alloc _).alloc _) rfl
 have t1:decide ((G.length:Int)<=n)=false:=decide_eq_false c;obtain⟨i,hi⟩: ∃i:Nat,(G.length:Int) - 1 - n=(i:Int):=⟨G.length - 1 - n.toNat,by omega⟩;have J:G.length - 1 - n.toNat=i:=by omega
 have y:i < G.length:=by omega
 have V:(i:Int) <(G.length:Int):=by omega
 have T:IntKind.i64.wrap ((G.length:Int) - 1)=(G.length:Int) - 1:=dR _ ⟨by omega,by omega⟩;have m:IntKind.i64.wrap ((G.length:Int) - 1 - n)=(i:Int):=by rw[hi];exact dR _ ⟨by omega,by omega⟩
 have o:IntKind.i64.wrap (n+1)=n+1:=dR _ ⟨by omega,by omega⟩;have U:=hdq (show j0 m0 (kd G i)=true from ii _ (Li y));have D:=hdq (show 0<=n+1/\n+1<=1000 by omega);obtain⟨bg,og,rfl,-,E⟩:=fd k.hG (by omega);obtain⟨Y,x2,Z,x4,x5,p⟩:=E i y;rw[Nat.mul_comm] at p;have HR:=hdq (show r=mkV (shfT (n+1) (kd G i) 0) by unfold Xg at h;rw[if_neg c,J] at h;simpa using h.symm);clear h E ii J hi L z c B a;go_enter func107,ntmps107;go_wp2_with fail;generalize d:aN (aN b _) _=q;obtain⟨f,br,S⟩:=Ue d.symm k.hN;have H:=hdq (k.keep f (g:=b.heap.size+1) (aP _) (O1 br));have j:q.heap.size=b.heap.size+1+1:=by rw[<-d];simp
 clear k;have F:=hdq (both S (p.up f (aP _)));have X:=xr q;have Q:=F.out _ X.off;clear S d p;generalize d:aN q _=P;obtain⟨s,e⟩:=nb d;rw[j] at s;clear j;replace F:=hdq (both (rb F.out (X.trans e)) (U9 s (by omega)));replace X:=X.trans e;replace H:=hdq (H.out.ext X);replace br:=X.blk br;replace f:=f.trans X;replace X:=xr P;replace Q:=F.out _ X.off;clear d s e;refine rgn (b.heap.size+1) (by kernel_rfl) X ?_;replace X:=X.drew;refine W2 [0,1,2,3,4,5,6,7,8,9,10,11,12,13] 8 (by kernel_rfl) X.off (fun _ _ _ _ _ h=> h) ?_
 iterate 14 (refine tk rfl (by rfl) (by intro w X;have Q:=F.out _ X;go_simp;(try with_reducible rfl)) ?_;try simp only[I3])
 replace Q:=F.out _ X.off;refine H0 14 (by kernel_rfl) rfl rfl (fun K hK=> ?_)
 go_simp
 go_at_call 102
 refine(oD _ (n+1) 0 _ _ Q.1.2.l U.out D.out.1 D.out.2 (by omega) (by omega)).mono ?_;rintro e w3 ⟨u,rfl,v,e⟩;have hx:=v.at' Q.1.1.1;clear v;obtain⟨_,_,_,_,_,rfl⟩:=hx.three;replace X:=X.trans e;replace Q:=F.out _ X.off;refine hK.out _ _ X.off (fun _=> ?_);clear hK K;refine W2 [15,16] 5 (by kernel_rfl) X.off (fun _ _ _ _ _ h=> h) ?_
 iterate 2 (refine tk rfl (by rfl) (by intro w X;go_simp;(try with_reducible rfl)) ?_;try simp only[I3])
 refine H0 17 (by kernel_rfl) rfl rfl (fun K hK=> ?_)
 go_simp
 go_at_call 103
 refine(Wl hx).mono ?_;rintro e w4 ⟨_,_,_,_,_,rfl,j,e⟩;replace X:=X.trans e;replace Q:=F.out _ X.off;refine hK.out _ _ X.off (fun _=> ?_);clear hK K;refine W2 [18,19] 2 (by kernel_rfl) X.off (fun _ _ _ _ _ h=> h) ?_
 iterate 2 (refine tk rfl (by rfl) (by intro w X;go_simp;(try with_reducible rfl)) ?_;try simp only[I3])
 clear T m o t1;have R:=cbn (X.blk br);refine H0 20 (by kernel_rfl) rfl rfl (fun K hK=> ?_)
 go_simp
 refine hK.out _ _ (X.off.set3 _ _ _) (fun _=> ?_);clear hK K;refine W2 [21] 0 (by kernel_rfl) (X.off.set3 _ _ _) (fun _ _ _ _ _ h=> h) ?_;refine tk rfl (by rfl) (by intro w X;go_simp;(try with_reducible rfl)) ?_
 try simp only[I3]
 refine bP (by kernel_rfl) ?_ _;go_wp2_with fail;exact n7 (by simp[aQ,results107,go_sem,R]) (j) (me HR.out) (f.trans X) (aP _) rfl
theorem yG{wC:aK}{V p2:Nat}{A:Option Addr}{G:List Tr}{At:Option Addr}{q:List Tr}{ty:Nat->An}(n:Int)(ca ct:Nat)(y:q.length<=ct)(O:ct<=aU)(f:aK)(N:Nat->Prop)(C:Rb wC f N V p2 A G At q ty)(D:q.length=2)(D1:j0 m0 (kd q 1)=true)(r:Tr×Int)(h:dk ty (kd q 1)=some r):aV prog 107 #[.agg #[.slice A G.length ca,.int .i64 5,.int .i64 n,.slice At q.length ct,.func (.func 105) #[] #[.pointer (some ⟨V,0,none⟩),.pointer (some ⟨p2,0,none⟩)]]] f (N9 N f r):=by
 have nc:=hdq D1;clear D1;obtain⟨s,c,hf,-,-⟩:=Xd h;unfold dk at h;rw[hf] at h;obtain⟨d,J,E,M,h4⟩:=nC h;have m:c=0->s.kids.length=2/\j0 m0 s=true:=fun h0=> by
  subst h0;obtain⟨-,q1,q2⟩:=Yk hf;have:O0 3=2:=rfl;exact⟨by omega,q2⟩
 obtain⟨ka,na,H⟩:=s;simp only[Tr.kids] at J E M m;clear h;have HF:=hdq hf;clear hf;have P:=hdq J;clear J;have Z:=hdq E;clear E;have H3:=hdq M;clear M;have T:=hdq h4;clear h4;have v:=hdq m;clear m;obtain⟨b,o,rfl,-,⟨O3,N6,O6,O7,O9,U⟩,ax,Y7,Y6,Z2,aa,K1⟩:=q17 C.hK D;have hp:=JI D;have I4:=hdq D;clear D;go_enter func107,ntmps107;go_wp2_with fail;generalize j:aN (aN f _) _=L;obtain⟨a,br,S⟩:=Ue j.symm C.hN;have k:=hdq (C.keep a (g:=f.heap.size+1) (aP _) (O1 br));have B:L.heap.size=f.heap.size+1+1:=by rw[<-j];simp
 clear C;have F:=hdq (both S (both (U.up a (aP _)) (K1.up a (aP _))));have X:=xr L;have Q:=F.out _ X.off;clear S j U K1;generalize j:aN L _=w2;obtain⟨p,e⟩:=nb j;rw[B] at p;clear B;replace F:=hdq (both (rb F.out (X.trans e)) (U9 p (by omega)));replace X:=X.trans e;replace k:=hdq (k.out.ext X);replace br:=X.blk br;replace a:=a.trans X;replace X:=xr w2;replace Q:=F.out _ X.off;clear j p e;refine(Bx 5 n ca ct y O _ _ (k.out.ext X) 0 (by rw[I4.out];decide) 3 _ HF.out).mono ?_;rintro e w3 ⟨u,rfl,hT,e⟩;replace X:=X.trans e;replace Q:=F.out _ X.off;simp only at hT⊢;have HT:=hdq hT;obtain⟨A1,c1,rfl,-,-,hK⟩:=InT.mk_iff.1 hT;clear hT;go_wp2_with fail;generalize j:aN w3 _=w4;obtain⟨p,e⟩:=nb j;replace F:=hdq (both (rb F.out (X.trans e)) (both (U9 p (X.ne br)) (both (HT.out.up e) (fun I h=>(hK.later e).off h fun _ h=> h.2))));replace X:=X.trans e;replace k:=hdq (k.out.ext X);replace br:=X.blk br;replace a:=a.trans X;replace X:=xr w4;replace Q:=F.out _ X.off;clear j p e;clear HT hK;refine rgn (f.heap.size+1) (by kernel_rfl) X ?_;replace X:=X.drew;refine W2 [0,1,3] 3 (by kernel_rfl) X.off (fun _ _ _ _ _ h=> h) ?_
 iterate 3 (refine tk rfl (by rfl) (by intro w X;have Q:=F.out _ X;go_simp;(try with_reducible rfl)) ?_;try simp only[I3])
 replace Q:=F.out _ X.off;refine H0 2 (by kernel_rfl) rfl rfl (fun K hK=> ?_)
 go_simp
 go_at_call 146
 refine(EA _ _ _ _ Q.2.2.1).mono ?_;rintro e w5 ⟨u,rfl,hx,e⟩;replace X:=X.trans e;replace Q:=F.out _ X.off;refine hK.out _ _ X.off (fun _=> ?_);clear hK K;obtain⟨_,_,_,_,_,rfl⟩:=hx.three;refine H0 4 (by kernel_rfl) rfl rfl (fun K hK=> ?_)
 go_simp
 go_at_call 145
 refine(kw 5 n ca ct y O _ _ (k.out.ext X) 1 (by rw[I4.out];decide) _ _ hx c d P.out Z.out).mono ?_;rintro e w6 ⟨rfl,e⟩;replace X:=X.trans e;replace Q:=F.out _ X.off;refine hK.out _ _ X.off (fun _=> ?_);clear hK K;refine W2 [5] 0 (by kernel_rfl) X.off (fun _ _ _ _ _ h=> h) ?_;refine tk rfl (by rfl) (by intro w X;go_simp;(try with_reducible rfl)) ?_
 try simp only[I3]
 refine bP (by kernel_rfl) ?_ _;clear hx;obtain⟨HC,t⟩ |rfl:=cz d
 · have R:=cbn (X.blk br)
   go_wp2_with fail;exact ya (by simp[aQ,results107,go_sem,R]) (T.out HC.out) ((a.trans X).set3 (aP _) _ _ _) rfl
 obtain⟨rfl,Y⟩:=H3.out (by trivial);obtain⟨x,hv⟩:=v.out (by trivial);have Y3:=hdq (show j0 m0 (kd H 1)=true from Cd hv (i:=1) (by simp only[Tr.kids];omega));have HR:=hdq (bZ Y);clear P Z H3 T v hv Y;obtain⟨b2,o2,rfl,hb,-,f11,f12,f13,f14,f15,W⟩:=q17 Q.2.2.2 x;have z:=hdq (fun I (h:Off (f.heap.size+1) w6 I)=>(KA.off W hb.2 (fun _ h=> h.2) I h));have hp1:(1:Int) <(H.length:Int)/\1 < H.length:=by omega
 clear x W hb;replace F:=hdq (both (rb F.out X) z.out);replace k:=hdq (k.out.ext X);replace br:=X.blk br;replace a:=a.trans X;replace X:=xr w6;replace Q:=F.out _ X.off;clear z;go_wp2_with fail;refine rgn (f.heap.size+1) (by kernel_rfl) X ?_;replace X:=X.drew;refine W2 [0,1,2,3,4,5,6,7] 8 (by kernel_rfl) X.off (fun _ _ _ _ _ h=> h) ?_
 iterate 8 (refine tk rfl (by rfl) (by intro w X;have Q:=F.out _ X;go_simp;(try with_reducible rfl)) ?_;try simp only[I3])
 replace Q:=F.out _ X.off;refine H0 8 (by kernel_rfl) rfl rfl (fun K hK=> ?_)
 go_simp
 go_at_call 119
 refine(Ms Y3.out nc.out Q.1.1.1.1.1 Q.2.l Q.1.1.1.2.2.l).mono ?_;rintro e w7 ⟨_,_,_,_,_,rfl,hy,e⟩;replace X:=X.trans e;replace Q:=F.out _ X.off;refine hK.out _ _ X.off (fun _=> ?_);clear hK K;refine W2 [9,10] 5 (by kernel_rfl) X.off (fun _ _ _ _ _ h=> h) ?_
 iterate 2 (refine tk rfl (by rfl) (by intro w X;go_simp;(try with_reducible rfl)) ?_;try simp only[I3])
 refine H0 11 (by kernel_rfl) rfl rfl (fun K hK=> ?_)
 go_simp
 go_at_call 103
 refine(Wl hy).mono ?_;rintro e w8 ⟨_,_,_,_,_,rfl,B,e⟩;replace X:=X.trans e;replace Q:=F.out _ X.off;refine hK.out _ _ X.off (fun _=> ?_);clear hK K;refine W2 [12,13] 2 (by kernel_rfl) X.off (fun _ _ _ _ _ h=> h) ?_
 iterate 2 (refine tk rfl (by rfl) (by intro w X;go_simp;(try with_reducible rfl)) ?_;try simp only[I3])
 have R:=cbn (X.blk br);refine H0 14 (by kernel_rfl) rfl rfl (fun K hK=> ?_)
 go_simp
 refine hK.out _ _ (X.off.set3 _ _ _) (fun _=> ?_);clear hK K;refine W2 [15] 0 (by kernel_rfl) (X.off.set3 _ _ _) (fun _ _ _ _ _ h=> h) ?_;refine tk rfl (by rfl) (by intro w X;go_simp;(try with_reducible rfl)) ?_
 try simp only[I3]
 refine bP (by kernel_rfl) ?_ _;go_wp2_with fail;exact n7 (by simp[aQ,results107,go_sem,R]) (B) (me HR.out.symm) (a.trans X) (aP _) rfl
theorem jI{E:aK}{D T:Nat}{A:Option Addr}{G:List Tr}{At:Option Addr}{l:List Tr}{ty:Nat->An}(n:Int)(ca ct:Nat)(hlt:l.length<=ct)(l8:ct<=aU)(j:aK)(N:Nat->Prop)(q:Rb E j N D T A G At l ty)(m:Tr->An)(O:Ce E A ca G m)(v:l.length=1)(B: ∀s,ty 0=some (s,0)->j0 m0 s=true)(r:Tr×Int)(h:Ho m ty (kd l 0)=some r):aV prog 107 #[.agg #[.slice A G.length ca,.int .i64 11,.int .i64 n,.slice At l.length ct,.func (.func 105) #[] #[.pointer (some ⟨D,0,none⟩),.pointer (some ⟨T,0,none⟩)]]] j (N9 N j r):=by
 have HI:=hdq O;clear O;have P:=hdq B;clear B;obtain⟨s,c,x,H,L⟩:=k8 h;clear h;obtain⟨b,o,rfl,-,O3,N6,O6,O7,O9,C⟩:=j15 q.hK v;have hp:=SI v;have I4:=hdq v;clear v;go_enter func107,ntmps107;go_wp2_with fail;generalize f:aN (aN j _) _=z;obtain⟨d,br,S⟩:=Ue f.symm q.hN;have a:=hdq (q.keep d (g:=j.heap.size+1) (aP _) (O1 br));have p:z.heap.size=j.heap.size+1+1:=by rw[<-f];simp
 clear q;have F:=hdq (both S (C.up d (aP _)));have X:=xr z;have Q:=F.out _ X.off;clear S f C;generalize f:aN z _=Z;obtain⟨k,e⟩:=nb f;rw[p] at k;clear p;replace F:=hdq (both (rb F.out (X.trans e)) (U9 k (by omega)));replace X:=X.trans e;replace a:=hdq (a.out.ext X);replace br:=X.blk br;replace d:=d.trans X;replace X:=xr Z;replace Q:=F.out _ X.off;clear f k e;refine((a.out.ext X).hT _ _ (a.out.ext X).hx (a.out.ext X).hN (a.out.ext X).hG (a.out.ext X).hK 0 (by rw[I4.out];decide) _ x.out).mono ?_;rintro e w3 ⟨u,rfl,hT,e⟩;replace X:=X.trans e;replace Q:=F.out _ X.off;obtain⟨_,_,_,_,_,rfl⟩:=hT.three;simp only;obtain⟨y,t⟩ |rfl:=cz c
 · have R:=cbn (X.blk br)
   have U:=fun o=> cbn ((X.alloc o).blk br)
   go_wp2_with fail;exact ya (by simp[aQ,results107,go_sem,R,U]) (L.out y.out) (((d.trans X).alloc _).set3 (aP _) _ _ _) rfl
 have V:=hdq (P.out _ x.out);obtain⟨sB,c,J,I,M⟩:=k8 (H.out rfl);clear x H L P;go_wp2_with fail;generalize f:aN w3 _=W;obtain⟨k,e⟩:=nb f;replace F:=hdq (both (rb F.out (X.trans e)) (both (U9 k (X.ne br)) (hT.up e)));replace X:=X.trans e;replace a:=hdq (a.out.ext X);replace br:=X.blk br;replace d:=d.trans X;replace X:=xr W;replace Q:=F.out _ X.off;clear f k e;clear hT;refine(Ot HI.out _ _ (a.out.ext X).hx (a.out.ext X).hN (a.out.ext X).hG s _ Q.2.2 V.out _ J.out).mono ?_;rintro e w5 ⟨rfl,e⟩;replace X:=X.trans e;replace Q:=F.out _ X.off;simp only;obtain⟨y,t⟩ |rfl:=cz c
 · have R:=cbn (X.blk br)
   go_wp2_with fail;exact ya (by simp[aQ,results107,go_sem,R]) (M.out y.out) ((d.trans X).set3 (aP _) _ _ _) rfl
 have HR:=hdq (bZ (I.out rfl));clear J I M;go_wp2_with fail;refine rgn (j.heap.size+1) (by kernel_rfl) X ?_;replace X:=X.drew;refine W2 [0,1,2,3,4,5,6,7,8] 7 (by kernel_rfl) X.off (fun _ _ _ _ _ h=> h) ?_
 iterate 9 (refine tk rfl (by rfl) (by intro w X;have Q:=F.out _ X;go_simp;(try with_reducible rfl)) ?_;try simp only[I3])
 replace Q:=F.out _ X.off;refine H0 9 (by kernel_rfl) rfl rfl (fun K hK=> ?_)
 go_simp
 obtain⟨e,Y⟩:=fg 25 Q.2.2 Q.1.1.2.i Q.1.1.2.i Q.1.1.1.1;replace X:=X.trans e;replace Q:=F.out _ X.off;refine hK.out _ _ X.off (fun _=> ?_);clear hK K;refine H0 10 (by kernel_rfl) rfl rfl (fun K hK=> ?_)
 go_simp
 go_at_call 56
 refine(Sm 10 Y rfl).mono ?_;rintro e w6 ⟨rfl,hx,e⟩;replace X:=X.trans e;replace Q:=F.out _ X.off;refine hK.out _ _ X.off (fun _=> ?_);clear hK K;refine H0 11 (by kernel_rfl) rfl rfl (fun K hK=> ?_)
 go_simp
 go_at_call 103
 refine(Vf hx).mono ?_;rintro e w7 ⟨_,_,_,_,_,rfl,p,e⟩;replace X:=X.trans e;replace Q:=F.out _ X.off;refine hK.out _ _ X.off (fun _=> ?_);clear hK K;refine W2 [12,13] 2 (by kernel_rfl) X.off (fun _ _ _ _ _ h=> h) ?_
 iterate 2 (refine tk rfl (by rfl) (by intro w X;go_simp;(try with_reducible rfl)) ?_;try simp only[I3])
 have R:=cbn (X.blk br);refine H0 14 (by kernel_rfl) rfl rfl (fun K hK=> ?_)
 go_simp
 refine hK.out _ _ (X.off.set3 _ _ _) (fun _=> ?_);clear hK K;refine W2 [15] 0 (by kernel_rfl) (X.off.set3 _ _ _) (fun _ _ _ _ _ h=> h) ?_;refine tk rfl (by rfl) (by intro w X;go_simp;(try with_reducible rfl)) ?_
 try simp only[I3]
 refine bP (by kernel_rfl) ?_ _;go_wp2_with fail;exact n7 (by simp[aQ,results107,go_sem,R]) (p) (me HR.out.symm) (d.trans X) (aP _) rfl
end Go.Proofs.YtckhbnmfnpolgaaGreat
namespace Go.Proofs.YtckhbnmfnpolgaaGreat
open Go.RowKit
open M (Hd HR Cv Ty M2 dep DG fvb Tm)
theorem Pl(t:Tm): ∀r:Nat->Nat,cnt (enc (t.ren r))=cnt (enc t):=by
 induction t <;> intro r <;> simp only[Tm.ren,enc,cnt,W1, *]
theorem Ns(t:Tm): ∀d,dep t<=d->3*cnt (enc t)+1<=4 ^ d:=by
 have up: ∀{d n:Nat},n+1<=d-> ∃e,d=e+1/\n<=e/\4 ^ d=4*4 ^ e:=fun{d n} h=> by
  obtain⟨e,rfl⟩: ∃e,d=e+1:=⟨d - 1,by omega⟩;exact⟨e,rfl,by omega,by rw[Nat.pow_succ];omega⟩
 have one: ∀{d:Nat},1<=d->4<=4 ^ d:=fun{d} h=> by
  obtain⟨e,-,-,f⟩:=up (n:=0) h;have:1<=4 ^ e:=Nat.pos_of_ne_zero (by simp);omega
 induction t with
 |var n=> intro d h;exact one h
 |sort n=> intro d h;exact one h
 |nat=> intro d h;exact one h
 |zero=> intro d h;exact one h
 |pi A B b c=> intro d h;obtain⟨e,rfl,g,f⟩:=up h;have:=b e (by omega);have:=c e (by omega);simp only[enc,cnt,W1];omega
 |lam A B b c=> intro d h;obtain⟨e,rfl,g,f⟩:=up h;have:=b e (by omega);have:=c e (by omega);simp only[enc,cnt,W1];omega
 |sg A B b c=> intro d h;obtain⟨e,rfl,g,f⟩:=up h;have:=b e (by omega);have:=c e (by omega);simp only[enc,cnt,W1];omega
 |app A B b c=> intro d h;obtain⟨e,rfl,g,f⟩:=up h;have:=b e (by omega);have:=c e (by omega);simp only[enc,cnt,W1];omega
 |succ A b=> intro d h;obtain⟨e,rfl,g,f⟩:=up h;have:=b e (by omega);simp only[enc,cnt,W1];omega
 |refl A b=> intro d h;obtain⟨e,rfl,g,f⟩:=up h;have:=b e (by omega);simp only[enc,cnt,W1];omega
 |fst A b=> intro d h;obtain⟨e,rfl,g,f⟩:=up h;have:=b e (by omega);simp only[enc,cnt,W1];omega
 |snd A b=> intro d h;obtain⟨e,rfl,g,f⟩:=up h;have:=b e (by omega);simp only[enc,cnt,W1];omega
 |elim p z s a b c i j=> intro d h;obtain⟨e,rfl,g,f⟩:=up h;have:=b e (by omega);have:=c e (by omega);have:=i e (by omega);have:=j e (by omega);simp only[enc,cnt,W1];omega
 |id p z s b c i=> intro d h;obtain⟨e,rfl,g,f⟩:=up h;have:=b e (by omega);have:=c e (by omega);have:=i e (by omega);simp only[enc,cnt,W1];omega
 |move p z s b c i=> intro d h;obtain⟨e,rfl,g,f⟩:=up h;have:=b e (by omega);have:=c e (by omega);have:=i e (by omega);simp only[enc,cnt,W1];omega
 |pair p z s b c i=> intro d h;obtain⟨e,rfl,g,f⟩:=up h;have:=b e (by omega);have:=c e (by omega);have:=i e (by omega);simp only[enc,cnt,W1];omega
def ia:Tm->Prop
 | .sort n=> n<=3
 | .pi A B=> ia A/\ia B
 | .lam A B=> ia A/\ia B
 | .sg A B=> ia A/\ia B
 | .app A B=> ia A/\ia B
 | .succ A=> ia A
 | .refl A=> ia A
 | .fst A=> ia A
 | .snd A=> ia A
 | .elim p z s a=> ia p/\ia z/\ia s/\ia a
 | .id p z s=> ia p/\ia z/\ia s
 | .move p z s=> ia p/\ia z/\ia s
 | .pair p z s=> ia p/\ia z/\ia s
 |_=> True
theorem Ru(t:Tm): ∀r:Nat->Nat,ia t->ia (t.ren r):=by
 induction t <;> intro r h <;> simp only[Tm.ren,ia] at* <;> first|exact h|trivial|(simp_all)
theorem mm(t:Tm): ∀s:Nat->Tm,(∀n,ia (s n))->ia t->ia (t.sub s):=by
 have b: ∀s:Nat->Tm,(∀n,ia (s n))-> ∀n,ia (Tm.ups s n):=fun s h n=> by
  cases n with
  |zero=> trivial
  |succ n=> exact Ru _ _ (h n)
 induction t <;> intro s hs h <;>(try have a:=b s hs) <;> simp only[Tm.sub,ia] at* <;> first|exact h|trivial|exact hs _|(simp_all)
theorem RF{t u:Tm}(h:ia t)(k:ia u):ia (t.inst u):=mm t _ (fun n=> by cases n;exact k;trivial) h
theorem Rv: ∀(t:Tm) (d:Int),D0 m0 (enc t) d=true->ia t:=by
 intro t
 induction t with
 |sort n=> intro d h;have:=(Z4 h).2.2.1;simp only[ia];have g:m0.most 2=3:=rfl;omega
 |var n=> intros;trivial
 |nat=> intros;trivial
 |zero=> intros;trivial
 |pi A B b c=> intro d h;have:=(Z4 h).2.2.2;exact⟨b _ (this _ (by simp)),c _ (this _ (by simp))⟩
 |lam A B b c=> intro d h;have:=(Z4 h).2.2.2;exact⟨b _ (this _ (by simp)),c _ (this _ (by simp))⟩
 |sg A B b c=> intro d h;have:=(Z4 h).2.2.2;exact⟨b _ (this _ (by simp)),c _ (this _ (by simp))⟩
 |app A B b c=> intro d h;have:=(Z4 h).2.2.2;exact⟨b _ (this _ (by simp)),c _ (this _ (by simp))⟩
 |succ A b=> intro d h;exact b _ ((Z4 h).2.2.2 _ (by simp))
 |refl A b=> intro d h;exact b _ ((Z4 h).2.2.2 _ (by simp))
 |fst A b=> intro d h;exact b _ ((Z4 h).2.2.2 _ (by simp))
 |snd A b=> intro d h;exact b _ ((Z4 h).2.2.2 _ (by simp))
 |elim p z s a b c e f=> intro d h;have:=(Z4 h).2.2.2;exact⟨b _ (this _ (by simp)),c _ (this _ (by simp)),e _ (this _ (by simp)),f _ (this _ (by simp))⟩
 |id p z s b c e=> intro d h;have:=(Z4 h).2.2.2;exact⟨b _ (this _ (by simp)),c _ (this _ (by simp)),e _ (this _ (by simp))⟩
 |move p z s b c e=> intro d h;have:=(Z4 h).2.2.2;exact⟨b _ (this _ (by simp)),c _ (this _ (by simp)),e _ (this _ (by simp))⟩
 |pair p z s b c e=> intro d h;have:=(Z4 h).2.2.2;exact⟨b _ (this _ (by simp)),c _ (this _ (by simp)),e _ (this _ (by simp))⟩
theorem YE{t:Tm}(h:j0 m0 (enc t)=true):ia t:=Rv t _ (Z3 h).1
theorem Zl(t:Tm): ∀{n m:Nat} {s:Nat->Tm},(∀i,i < n->fvb m (s i))->(∀(k:Tm) (r:Nat->Nat) (a b:Nat),(∀i,i < a->r i < b)->fvb a k->fvb b (k.ren r))->fvb n t->fvb m (t.sub s):=by
 have g: ∀{n m:Nat} {s:Nat->Tm},(∀i,i < n->fvb m (s i))->(∀(k:Tm) (r:Nat->Nat) (a b:Nat),(∀i,i < a->r i < b)->fvb a k->fvb b (k.ren r))-> ∀i,i < n+1->fvb (m+1) (Tm.ups s i):=fun h hr i hi=> by
  cases i with
  |zero=> exact Nat.succ_pos _
  |succ i=> exact hr _ _ _ _ (fun i h=> Nat.succ_lt_succ h) (h i (by omega))
 induction t with
 |var i=> intro n m s h hr k;exact h i k
 |sort n=> intros;trivial
 |nat=> intros;trivial
 |zero=> intros;trivial
 |pi A B c d=> intro n m s h hr k;exact⟨c h hr k.1,d (g h hr) hr k.2⟩
 |lam A B c d=> intro n m s h hr k;exact⟨c h hr k.1,d (g h hr) hr k.2⟩
 |sg A B c d=> intro n m s h hr k;exact⟨c h hr k.1,d (g h hr) hr k.2⟩
 |app A B c d=> intro n m s h hr k;exact⟨c h hr k.1,d h hr k.2⟩
 |succ A c=> intro n m s h hr k;exact c h hr k
 |refl A c=> intro n m s h hr k;exact c h hr k
 |fst A c=> intro n m s h hr k;exact c h hr k
 |snd A c=> intro n m s h hr k;exact c h hr k
 |elim p z f a c d e j=> intro n m s h hr k;exact⟨c h hr k.1,d h hr k.2.1,e h hr k.2.2.1,j h hr k.2.2.2⟩
 |id p z f c d e=> intro n m s h hr k;exact⟨c h hr k.1,d h hr k.2.1,e h hr k.2.2⟩
 |move p z f c d e=> intro n m s h hr k;exact⟨c h hr k.1,d h hr k.2.1,e h hr k.2.2⟩
 |pair p z f c d e=> intro n m s h hr k;exact⟨c h hr k.1,d h hr k.2.1,e h hr k.2.2⟩
theorem Xt(t:Tm): ∀(r:Nat->Nat) (a b:Nat),(∀i,i < a->r i < b)->fvb a t->fvb b (t.ren r):=by
 have f: ∀{r:Nat->Nat} {a b:Nat},(∀i,i < a->r i < b)-> ∀i,i < a+1->Tm.upr r i < b+1:=fun h i hi=> by
  cases i with
  |zero=> exact Nat.succ_pos _
  |succ i=> exact Nat.succ_lt_succ (h i (by omega))
 induction t with
 |var i=> intro r n m h k;exact h i k
 |sort n=> intros;trivial
 |nat=> intros;trivial
 |zero=> intros;trivial
 |pi A B c d=> intro r n m h k;exact⟨c r _ _ h k.1,d _ _ _ (f h) k.2⟩
 |lam A B c d=> intro r n m h k;exact⟨c r _ _ h k.1,d _ _ _ (f h) k.2⟩
 |sg A B c d=> intro r n m h k;exact⟨c r _ _ h k.1,d _ _ _ (f h) k.2⟩
 |app A B c d=> intro r n m h k;exact⟨c r _ _ h k.1,d r _ _ h k.2⟩
 |succ A c=> intro r n m h k;exact c r _ _ h k
 |refl A c=> intro r n m h k;exact c r _ _ h k
 |fst A c=> intro r n m h k;exact c r _ _ h k
 |snd A c=> intro r n m h k;exact c r _ _ h k
 |elim p z s a c d e g=> intro r n m h k;exact⟨c r _ _ h k.1,d r _ _ h k.2.1,e r _ _ h k.2.2.1,g r _ _ h k.2.2.2⟩
 |id p z s c d e=> intro r n m h k;exact⟨c r _ _ h k.1,d r _ _ h k.2.1,e r _ _ h k.2.2⟩
 |move p z s c d e=> intro r n m h k;exact⟨c r _ _ h k.1,d r _ _ h k.2.1,e r _ _ h k.2.2⟩
 |pair p z s c d e=> intro r n m h k;exact⟨c r _ _ h k.1,d r _ _ h k.2.1,e r _ _ h k.2.2⟩
theorem eI{t u:Tm}{n:Nat}(h:fvb (n+1) t)(k:fvb n u):fvb n (t.inst u):=Zl t (fun i hi=> by
 cases i with
 |zero=> exact k
 |succ i=> exact Nat.lt_of_succ_lt_succ hi) Xt h
theorem Yx: ∀(t:Tm) (n d:Nat),fvb n t->ia t->dep t<=d->n+d<=21->D0 m0 (enc t) d=true:=by
 have g: ∀{d m:Nat},m+1<=d-> ∃e:Nat,d=e+1/\m<=e/\((e+1:Nat):Int) - 1=(e:Int)/\decide (1<=((e+1:Nat):Int))=true:=fun{d m} h=>⟨d - 1,by omega,by omega,by omega,decide_eq_true (by omega)⟩
 intro t
 induction t with
 |var i=>
  intro n d h _ hd hn;have:i < n:=h;obtain⟨e,rfl,-,c,b⟩:=g hd;simp only[enc,D0,m9,b,li,bQ,dM,aW,decide_eq_true_eq];refine⟨rfl, ?_⟩;simp only[kb,aW,decide_eq_true_eq];have o:m0.most 1=20:=rfl;omega
 |sort i=>
  intro n d _ h hd hn;have:i<=3:=h;obtain⟨e,rfl,-,c,b⟩:=g hd;simp only[enc,D0,m9,b,li,bQ,dM,aW,decide_eq_true_eq];refine⟨rfl, ?_⟩;simp only[kb,aW,decide_eq_true_eq];have o:m0.most 2=3:=rfl;omega
 |nat=> intro n d _ _ hd _;obtain⟨e,rfl,-,c,b⟩:=g hd;simp only[enc,D0,m9,b,bQ,dM];rfl
 |zero=> intro n d _ _ hd _;obtain⟨e,rfl,-,c,b⟩:=g hd;simp only[enc,D0,m9,b,bQ,dM];rfl
 |pi A B f k=> intro n d h s hd hn;obtain⟨e,rfl,j,c,b⟩:=g hd;simp only[enc,D0,m9,c,b,f n e h.1 s.1 (by omega) (by omega),k (n+1) e h.2 s.2 (by omega) (by omega),bQ,dM];rfl
 |lam A B f k=> intro n d h s hd hn;obtain⟨e,rfl,j,c,b⟩:=g hd;simp only[enc,D0,m9,c,b,f n e h.1 s.1 (by omega) (by omega),k (n+1) e h.2 s.2 (by omega) (by omega),bQ,dM];rfl
 |sg A B f k=> intro n d h s hd hn;obtain⟨e,rfl,j,c,b⟩:=g hd;simp only[enc,D0,m9,c,b,f n e h.1 s.1 (by omega) (by omega),k (n+1) e h.2 s.2 (by omega) (by omega),bQ,dM];rfl
 |app A B f k=> intro n d h s hd hn;obtain⟨e,rfl,j,c,b⟩:=g hd;simp only[enc,D0,m9,c,b,f n e h.1 s.1 (by omega) (by omega),k n e h.2 s.2 (by omega) (by omega),bQ,dM];rfl
 |succ A f=> intro n d h s hd hn;obtain⟨e,rfl,j,c,b⟩:=g hd;simp only[enc,D0,m9,c,b,f n e h s j (by omega),bQ,dM];rfl
 |refl A f=> intro n d h s hd hn;obtain⟨e,rfl,j,c,b⟩:=g hd;simp only[enc,D0,m9,c,b,f n e h s j (by omega),bQ,dM];rfl
 |fst A f=> intro n d h s hd hn;obtain⟨e,rfl,j,c,b⟩:=g hd;simp only[enc,D0,m9,c,b,f n e h s j (by omega),bQ,dM];rfl
 |snd A f=> intro n d h s hd hn;obtain⟨e,rfl,j,c,b⟩:=g hd;simp only[enc,D0,m9,c,b,f n e h s j (by omega),bQ,dM];rfl
 |elim p z t a f k l q=> intro n d h s hd hn;obtain⟨e,rfl,j,c,b⟩:=g hd;simp only[enc,D0,m9,c,b,f n e h.1 s.1 (by omega) (by omega),k n e h.2.1 s.2.1 (by omega) (by omega),l n e h.2.2.1 s.2.2.1 (by omega) (by omega),q n e h.2.2.2 s.2.2.2 (by omega) (by omega),bQ,dM];rfl
 |id p z t f k l=> intro n d h s hd hn;obtain⟨e,rfl,j,c,b⟩:=g hd;simp only[enc,D0,m9,c,b,f n e h.1 s.1 (by omega) (by omega),k n e h.2.1 s.2.1 (by omega) (by omega),l n e h.2.2 s.2.2 (by omega) (by omega),bQ,dM];rfl
 |move p z t f k l=> intro n d h s hd hn;obtain⟨e,rfl,j,c,b⟩:=g hd;simp only[enc,D0,m9,c,b,f n e h.1 s.1 (by omega) (by omega),k n e h.2.1 s.2.1 (by omega) (by omega),l n e h.2.2 s.2.2 (by omega) (by omega),bQ,dM];rfl
 |pair p z t f k l=> intro n d h s hd hn;obtain⟨e,rfl,j,c,b⟩:=g hd;simp only[enc,D0,m9,c,b,f n e h.1 s.1 (by omega) (by omega),k n e h.2.1 s.2.1 (by omega) (by omega),l n e h.2.2 s.2.2 (by omega) (by omega),bQ,dM];rfl
theorem Yz{t:Tm}{n:Nat}(h:fvb n t)(s:ia t)(hn:n+dep t<=21)(hc:cnt (enc t)<=400):j0 m0 (enc t)=true:=by
 unfold j0;rw[Ow (Yx t n (dep t) h s (Nat.le_refl _) hn) (by omega),bQ,decide_eq_true_eq];exact hc
