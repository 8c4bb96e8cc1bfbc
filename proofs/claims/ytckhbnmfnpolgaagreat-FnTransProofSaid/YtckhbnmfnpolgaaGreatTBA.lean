/- Lemmas towards the law. -/
import Derived.Test.YtckhbnmfnpolgaaGreatTAZ
import Derived.Lib.MinMax
open Go renaming World->aN,Calls->aY,maxLen->aW,results->aS,wpAnyH_done->bO
open Bool renaming and_eq_true->aX
open Nat renaming le_refl->aP,le_succ->aR
open Go.World renaming alloc->aO,setCell->bT
open Option.some renaming inj->cN
open List renaming getElem?_toArray->dV,getElem?_cons_zero->dR,getElem?_cons_succ->dO,setIfInBounds_toArray->aV,set_cons_zero->bP,set_cons_succ->bN
open Go.Proofs.Tryz
set_option linter.all false
set_option maxHeartbeats 8000000
set_option maxRecDepth 100000
namespace Go.Proofs.YtckhbnmfnpolgaaGreat
open Go Go.RowKit
attribute [local go_sem ↓] Go.wp_at_zero Go.wp_at_succ
theorem vi{x:An}{kind:Int}{s:Tr}(h:Q0 x kind=some (s,0)):s.kind=kind/\(s.kids.length:Int)=S0 kind/\valid sigT s=true:=by
 obtain⟨u,c,b,a⟩:=vf h;obtain⟨-,-,-,hv⟩:=BA b;refine⟨a, ?_,hv⟩;obtain⟨k,n,d⟩:=s;have:=(m6 (N4 hv).1).1;rw[<-a];exact this.symm
theorem zD{x:An}{T:Tr}{c:Int}(h:Og x T=some c): ∃s d,Hid (Q0 x 3=some (s,d))/\Hid (d=0->(W3 (kd s.kids 0) T=0->c=(S4 (kd s.kids 1) 2).2)/\(W3 (kd s.kids 0) T≠0->c=W3 (kd s.kids 0) T))/\Hid (d≠0->c=d):=by
 unfold Og at h;cases e:Q0 x 3 with
 |none=> rw[e] at h;cases h
 |some q=>
  obtain⟨s,d⟩:=q;rw[e] at h;simp only at h;refine⟨s,d,hdq rfl,hdq fun hd=> ?_,hdq fun hd=> ?_⟩
  · rw[if_pos hd] at h
    refine⟨fun a=> ?_,fun a=> ?_⟩
    · rw[if_pos a] at h;simpa using h.symm
    · rw[if_neg a] at h;simpa using h.symm
  · rw[if_neg hd] at h
    simpa using h.symm
theorem BL{N:Nat->Prop}{a d:aN}{j o m i k n g f:Value}{e u:TypeId}(p:d=(a.alloc (.cells #[j,o,m,i,k] e)).alloc (.cells #[n,g,f] u))(hN: ∀b,a.heap.size<=b->N b):
 Ext a d/\d.heap[a.heap.size]? =some (.cells #[j,o,m,i,k] e)/\ ∀c,Off a.heap.size d c->(∀b,c.heap.size<=b->N b/\b≠a.heap.size)/\c.cell? ⟨a.heap.size+1,0,none⟩=some n/\c.cell? ⟨a.heap.size+1,1,none⟩=some g/\c.cell? ⟨a.heap.size+1,2,none⟩=some f/\a.heap.size+1 < c.heap.size:=by
 obtain⟨q,t,s,l⟩:=box2 p;exact⟨l,q,both (fun c h b r=> Va hN l.size (by omega) b (Nat.le_trans h.1 r)) (k8 t (by omega))⟩
theorem yk(k:Int){w:aN}{N:Nat->Prop}{A:Option Addr}{c:Nat}{b:List Tr}(hK:InK w N A b)(hc:(b.length==c && decide (c < 9))=true):
 aY prog 56 #[j0 k,.slice A c c] w fun e a=> e= .returned (m0 k 0 A c c)/\InT a N (.mk k 0 b) (m0 k 0 A c c)/\Ext w a:=by
 simp only[aX,beq_iff_eq,decide_eq_true_eq] at hc;obtain⟨rfl,d⟩:=hc;refine(Qe w k A _ _).mono fun e a h=>⟨h.1,InT.mk_iff.2 ⟨A,_,rfl,aP _, ?_,hK.later h.2⟩,h.2⟩
 have:9<=aW:=by decide
 omega
theorem vD(X:Tr):(if valid sigT X=true then mkV (okT X) else(D2,2))=mkV X:=by
 by_cases h:valid sigT X=true
 · rw[if_pos h];unfold okT;rw[if_pos h]
 · rw[if_neg h];unfold mkV;rw[if_neg h]
theorem dz{t u:Tr}(hv:valid sigT t=true)(f:valid sigT u=true){w:aN}{N:Nat->Prop}(hN: ∀b,w.heap.size<=b->N b){v a:Value}(h:Lies w t v)(hl:Lies w u a):
 aY prog 119 #[v,j0 0,a] w fun e d=> ∃k n A l c,e= .returned (.tuple #[m0 k n A l c,.bool (valid sigT (X0 u t 0 0))])/\InT d N (okT (X0 u t 0 0)) (m0 k n A l c)/\Ext w d:=by
 refine(BB t 0 u w v a h hv hl f (by omega) (by omega)).mono ?_;rintro e d ⟨r,rfl,g,i⟩;have hT:=g.at' hN;obtain⟨k,n,A,l,c,rfl⟩:=hT.three;exact⟨k,n,A,l,c,rfl,hT,i⟩
theorem Qi{X:Tr}{w:aN}{N:Nat->Prop}{v:Value}(h:InT w N X v):aY prog 103 #[v,.bool true] w fun e b=> ∃k n A l c,e= .returned (.tuple #[m0 k n A l c,j0 (mkV X).2])/\InT b N (mkV X).1 (m0 k n A l c)/\Ext w b:=by
 refine(Np X true w N v h).mono ?_;rintro e b ⟨u,d,a,f⟩;rw[if_pos rfl] at d a;obtain⟨k,n,A,l,c,rfl⟩:=a.three;exact⟨k,n,A,l,c,d,a,f⟩
theorem Mp{X:Tr}{w:aN}{N:Nat->Prop}{v:Value}(h:InT w N (okT X) v):aY prog 103 #[v,.bool (valid sigT X)] w fun e b=> ∃k n A l c,e= .returned (.tuple #[m0 k n A l c,j0 (mkV X).2])/\InT b N (mkV X).1 (m0 k n A l c)/\Ext w b:=by
 refine(Np (okT X) (valid sigT X) w N v h).mono ?_;rintro e b ⟨u,d,a,f⟩;rw[vD] at d a;obtain⟨k,n,A,l,c,rfl⟩:=a.three;exact⟨k,n,A,l,c,d,a,f⟩
theorem WD{H:aN}{v D:Nat}{A:Option Addr}{G:List Tr}{At:Option Addr}{f:List Tr}{ty:Nat->An}(k n:Int)(ca ct:Nat)(a:f.length<=ct)(w:ct<=aW)(b:aN)(N:Nat->Prop)(i:zc H b N v D A G At f ty)(z:2<=f.length)(r:Tr×Int)(h:tf ty=some r):aY prog 142 #[.agg #[.slice A G.length ca,j0 k,j0 n,.slice At f.length ct,.func (.func 105) #[] #[O2 v,O2 D]]] b (n9 N b r):=by
 obtain⟨s,c,x,q,l⟩:=g8 h;clear h;have y:=hdq z;clear z;go_enter func142,ntmps142;go_wp2_with fail;generalize m:aO (aO b _) _=E;obtain⟨d,br,S⟩:=Nf m.symm i.hN;have B:=hdq (i.keep d (g:=b.heap.size+1) (aR _) (D1 br));clear i;have F:=hdq (S);have X:=xr E;have Q:=F.out _ X.off;clear S m;refine(lD k n ca ct a w _ _ (B.out.ext X) 0 (by have:=y.out;omega) _ x.out).mono ?_;rintro e J ⟨rfl,e⟩;replace X:=X.trans e;replace Q:=F.out _ X.off;simp only;obtain⟨j,t⟩ |rfl:=cz c
 · have R:=cbn (X.blk br)
   go_wp2_with fail;exact v9 (by simp[aS,results142,go_sem,R]) (l.out j.out) ((d.trans X).set3 (aR _) _ _ _) rfl
 obtain⟨C,c,p,u,o⟩:=g8 (q.out rfl);clear x q l;go_wp2_with fail;refine(lD k n ca ct a w _ _ (B.out.ext X) 1 (by have:=y.out;omega) _ p.out).mono ?_;rintro e K ⟨rfl,e⟩;replace X:=X.trans e;replace Q:=F.out _ X.off;simp only;obtain⟨j,t⟩ |rfl:=cz c
 · have R:=cbn (X.blk br)
   go_wp2_with fail;exact v9 (by simp[aS,results142,go_sem,R]) (o.out j.out) ((d.trans X).set3 (aR _) _ _ _) rfl
 obtain rfl:=cN (u.out rfl);clear p u o;go_wp2_with fail;refine(Yq (max s.num C.num) _).mono ?_;rintro e I ⟨rfl,e⟩;replace X:=X.trans e;replace Q:=F.out _ X.off;have R:=cbn (X.blk br);go_wp2_with fail;exact L7 (by simp[aS,results142,go_sem,R]) (Z5 _ _ 2 (max s.num C.num)) (rfl) (d.trans X) (aR _) rfl
theorem GD{wC:aN}{P L:Nat}{A:Option Addr}{G:List Tr}{At:Option Addr}{p:List Tr}{ty:Nat->An}(k n:Int)(ca ct:Nat)(C:p.length<=ct)(l9:ct<=aW)(b:aN)(N:Nat->Prop)(y:zc wC b N P L A G At p ty)(i:Nat)(hi:i < p.length)(T:Tr)(R:Value)(hT:InT b N T R)(c:Int)(h:Og (ty i) T=some c):aY prog 181 #[.agg #[.slice A G.length ca,j0 k,j0 n,.slice At p.length ct,.func (.func 105) #[] #[O2 P,O2 L]],j0 i,R] b fun e w'=> e= .returned (j0 c)/\Ext b w':=by
 obtain⟨s,d,H,H2,j⟩:=zD h;clear h;have HI:=hdq hi;clear hi;have HW:=hdq hT;obtain⟨Z,I,U⟩:=T;obtain⟨A8,c8,rfl,-⟩:=InT.mk_iff.1 hT;clear hT;go_enter func181,ntmps181;go_wp2_with fail;generalize o:aO (aO b _) _=w1;obtain⟨f,br,S⟩:=BL o.symm y.hN;have B:=hdq (y.keep f (g:=b.heap.size) (aP _) (D1 br));clear y;have F:=hdq (S);have X:=xr w1;have Q:=F.out _ X.off;clear S o;obtain⟨ka,na,m⟩:=s;refine(bF k n ca ct C l9 _ _ (B.out.ext X) i HI.out 3 _ H.out).mono ?_;rintro e w2 ⟨u,rfl,hT,e⟩;replace X:=X.trans e;replace Q:=F.out _ X.off;obtain⟨A1,c1,rfl,-,-,hK⟩:=InT.mk_iff.1 hT;clear hT;simp only at hK⊢;obtain⟨z,t⟩ |rfl:=cz d
 · obtain rfl:=j.out z.out
   go_wp2_with fail;go_ret;exact⟨rfl,(f.trans X).alloc _⟩
 obtain⟨-,a,-⟩:=vi H.out;obtain⟨q,x⟩:=H2.out rfl;simp only[Tr.kids] at a hK q x;have a:m.length=2:=by have:S0 3=2:=rfl;omega
 have j:=hdq q;have D:=hdq x;clear H H2 q x;obtain⟨b2,o2,rfl,E,⟨qq,pw,px,qs,rq,O⟩,f11,f12,f13,f14,f15,J⟩:=y17 hK a;rw[a];clear hK a;go_wp2_with fail;generalize o:aO w2 _=w3;obtain⟨Y,e⟩:=nb o;replace F:=hdq (both (rb F.out (X.trans e)) (both (k8 Y (X.ne br)) (both (O.fm E e) (J.fm E e))));replace X:=X.trans e;replace B:=hdq (B.out.ext X);replace br:=X.blk br;replace f:=f.trans X;replace X:=xr w3;replace Q:=F.out _ X.off;clear o Y e;clear O J E;have r:=hdq (fun W (hW:Ext b W) v (hv:Lies W (kd m 0) v)=> RE (kd m 0) (.mk Z I U) W _ _ hv (HW.out.lies'.ext hW));generalize W3 (kd m 0) (.mk Z I U)=cv at r j D;have V:=hdq (fun W M hM v (hv:Lies W (kd m 1) v)=> NE (kd m 1) 2 W M hM v hv);generalize S4 (kd m 1) 2=sh at V j;obtain⟨⟨h7,h8,h9⟩,d⟩:=sh;simp only at j;refine rgn b.heap.size (by kernel_rfl) X ?_;replace X:=X.drew;refine B3 [0,1,2,3,4] 2 (by kernel_rfl) X.off (fun _ _ _ _ _ h=> h) ?_
 iterate 5 (refine tk rfl (by rfl) (by intro w X;have Q:=F.out _ X;go_simp;(try with_reducible rfl)) ?_;try simp only[W2])
 replace Q:=F.out _ X.off;refine H0 5 (by kernel_rfl) rfl rfl (fun K hK=> ?_)
 go_simp
 go_at_call 80
 refine(r.out _ (f.trans X) _ Q.2.2.1.l).mono ?_;rintro e w4 ⟨rfl,e⟩;replace X:=X.trans e;replace Q:=F.out _ X.off;refine hK.out _ _ X.off (fun _=> ?_);refine B3 [6] 0 (by kernel_rfl) X.off (fun _ _ _ _ _ h=> h) ?_;refine tk rfl (by rfl) (by intro w X;go_simp;(try with_reducible rfl)) ?_
 try simp only[W2]
 refine bO (by kernel_rfl) ?_ _;obtain⟨z,t⟩ |rfl:=cz cv
 · obtain rfl:=D.out z.out
   go_wp2_with fail;go_ret;exact⟨rfl,(f.trans X)⟩
 obtain rfl:=j.out (by trivial);clear j D r;go_wp2_with fail;refine(V.out _ _ Q.1.1 _ Q.2.2.2.l).mono ?_;rintro e w5 ⟨u,rfl,hT,e⟩;replace X:=X.trans e;replace Q:=F.out _ X.off;go_wp2_with fail;go_ret;exact⟨rfl,(f.trans X)⟩
def Wy(a:Int)(b d:Option Int)(m:Nat)(c:Int):Prop:=(m=1/\c=a)\/(m=2/\a=0/\b=some c)\/(m=3/\a=0/\b=some 0/\d=some c)
theorem RI{ty:Nat->An}{T:Tr}{r:Tr×Int}(h:Ve ty T=some r): ∃s g,Q0 (ty 0) 2=some (s,g)/\ ∀(m:Nat) (c:Int),Wy g (Wa (ty 1) T) (Wa (ty 2) T) m c->
 (c=0->m<=2-> ∃d,Wa (ty m) T=some d/\Wy g (Wa (ty 1) T) (Wa (ty 2) T) (m+1) d)/\(c≠0->r=(D2,c))/\(c=0->2 < m->r=(m7 s.num,0))/\1<=m/\m<=3:=by
 rcases Yr h with⟨i,k,q⟩ |⟨i,c,k,hc,rfl⟩
 · refine⟨i,0,k,fun m c hm=> ?_⟩
   obtain⟨f,b,l,p⟩:=Pv q;rcases hm with⟨rfl,rfl⟩ |⟨rfl,-,a⟩ |⟨rfl,-,a,o⟩
   · exact⟨fun _ _=>⟨f,b,.inr (.inl ⟨rfl,rfl,b⟩)⟩,fun h=> absurd rfl h,fun _ h=> absurd h (by omega),by omega,by omega⟩
   · obtain rfl:f=c:=by rw[b] at a;simpa using a
     refine⟨fun t _=> ?_,p,fun _ h=> absurd h (by omega),by omega,by omega⟩;subst t;obtain⟨j,h8,n,e⟩:=Pv (l rfl);exact⟨j,h8,.inr (.inr ⟨rfl,rfl,b,h8⟩)⟩
   · obtain rfl:f=0:=by rw[b] at a;simpa using a
     obtain⟨j,h8,n,e⟩:=Pv (l rfl);obtain rfl:j=c:=by rw[h8] at o;simpa using o
     exact⟨fun _ h=> absurd h (by omega),e,fun h _=> by have:=n h;simpa using this.symm,by omega,by omega⟩
 · refine⟨i,c,k,fun m d hm=> ?_⟩
   rcases hm with⟨rfl,rfl⟩ |⟨-,a,-⟩ |⟨-,a,-⟩
   · exact⟨fun h=> absurd h hc,fun _=> rfl,fun h=> absurd h hc,by omega,by omega⟩
   · exact absurd a hc
   · exact absurd a hc
theorem lI{wC:aN}{I E:Nat}{A:Option Addr}{G:List Tr}{At:Option Addr}{f:List Tr}{ty:Nat->An}(k n:Int)(ca ct:Nat)(p:f.length<=ct)(J:ct<=aW)(j:aN)(N:Nat->Prop)(u:zc wC j N I E A G At f ty)(v:f.length=3)(r:Tr×Int)(h:Ve ty (kd f 0)=some r):aY prog 148 #[.agg #[.slice A G.length ca,j0 k,j0 n,.slice At f.length ct,.func (.func 105) #[] #[O2 I,O2 E]]] j (n9 N j r):=by
 obtain⟨s,H,O,U⟩:=RI h;have H1:=hdq O;have H2:=hdq U;clear h O U;obtain⟨b,o,rfl,-,⟨O9,P3,P6,Q5,R6,T⟩,-⟩:=j19 u.hK v;have hp:=aI v;have D:=hdq v;clear v;go_enter func148,ntmps148;go_wp2_with fail;generalize P:aO (aO j _) _=V;obtain⟨l,br,S⟩:=Nf P.symm u.hN;have M:=hdq (u.keep l (g:=j.heap.size+1) (aR _) (D1 br));clear u;have F:=hdq (both S (T.up l (aR _)));have X:=xr V;have Q:=F.out _ X.off;clear S P T;refine(lD k n ca ct p J _ _ (M.out.ext X) 0 (by rw[D.out];decide) _ H1.out).mono ?_;rintro e w2 ⟨rfl,e⟩;replace X:=X.trans e;replace Q:=F.out _ X.off;simp only;go_wp2_with fail
 go_loopw [5,6] (fun c i wr=> ∃(m:Nat) (d:Int),i= j0 m/\c= j0 d/\Hid (Wy H (Wa (ty 1) (kd f 0)) (Wa (ty 2) (kd f 0)) m d)/\Ext w2 wr) (fun _ i _=> 4 -(intOf i).toNat)
 case atStart=> exact⟨1,H,rfl,rfl,hdq (.inl ⟨rfl,rfl⟩),xr _⟩
 case round=>
  obtain⟨m,d,rfl,rfl,a,e⟩:=hrel;have t:=e;replace X:=X.trans e;replace Q:=F.out _ X.off;obtain⟨z,y,x,f4,f5⟩:=H2.out m d a.out;by_cases hd:d=0
  · by_cases hm:m<=2
    · obtain⟨C,L,q⟩:=z hd hm
      have W:=hdq L;have Y:=hdq q;have t1:decide ((m:Int)<=2)=true:=decide_eq_true (by omega);have hmw:IntKind.i64.wrap ((m:Int)+1)=(m:Int)+1:=IntWalk.i64_in _ ⟨by omega,by omega⟩;subst hd;have B:=hdq hm;clear z y x L q hm a;go_wp2_with fail;refine rgn (j.heap.size+1) (by kernel_rfl) X ?_;replace X:=X.drew;refine B3 [0,1,2,3,4,5,6] 2 (by kernel_rfl) X.off (fun _ _ _ _ _ h=> h) ?_
      iterate 7 (refine tk rfl (by rfl) (by intro w X;have Q:=F.out _ X;go_simp;(try with_reducible rfl)) ?_;try simp only[W2])
      replace t:=t.drew;replace Q:=F.out _ X.off;refine H0 7 (by kernel_rfl) rfl rfl (fun K hK=> ?_)
      go_simp
      go_at_call 141
      refine(GF k n ca ct p J _ _ (M.out.ext X) m (by have:=B.out;rw[D.out];omega) (kd f 0) _ Q.2.i C W.out).mono ?_;rintro e Z ⟨rfl,e⟩;replace t:=t.trans e;replace X:=X.trans e;replace Q:=F.out _ X.off;refine hK.out _ _ X.off (fun _=> ?_);refine B3 [8] 0 (by kernel_rfl) X.off (fun _ _ _ _ _ h=> h) ?_;refine tk rfl (by rfl) (by intro w X;go_simp;(try with_reducible rfl)) ?_
      try simp only[W2]
      refine bO (by kernel_rfl) ?_ _;go_wp2_with fail
      go_roundw
      case rel=> exact⟨m+1,C,by go_num,rfl,Y,t⟩
      case measure=> simp[intOf];omega
    · obtain rfl:=x hd (by omega)
      have t1:decide ((m:Int)<=2)=false:=decide_eq_false (by omega);subst hd;clear z y x hm a;go_wp2_with fail;refine(Yq s.num _).mono ?_;rintro e Z ⟨rfl,e⟩;replace X:=X.trans e;replace Q:=F.out _ X.off;have R:=cbn (X.blk br);go_wp2_with fail;exact L7 (by simp[aS,results148,go_sem,R]) (Z5 _ _ 2 s.num) (rfl) (l.trans X) (aR _) rfl
  · have HR:=hdq (y hd)
    have t2:(d !=0)=true:=by simp[hd]
    have t3:(d==0)=false:=by simp[hd]
    clear z y x hd a;by_cases hm:m<=2
    · have t1:decide ((m:Int)<=2)=true:=decide_eq_true (by omega)
      have R:=cbn (X.blk br);go_wp2_with fail;exact v9 (by simp[aS,results148,go_sem,R]) (HR.out) ((l.trans X).set3 (aR _) _ _ _) rfl
    · have t1:decide ((m:Int)<=2)=false:=decide_eq_false (by omega)
      have R:=cbn (X.blk br);go_wp2_with fail;exact v9 (by simp[aS,results148,go_sem,R]) (HR.out) ((l.trans X).set3 (aR _) _ _ _) rfl
theorem oD{wC:aN}{I H:Nat}{A:Option Addr}{G:List Tr}{At:Option Addr}{f:List Tr}{ty:Nat->An}(k n:Int)(ca ct:Nat)(B:f.length<=ct)(l9:ct<=aW)(j:aN)(N:Nat->Prop)(q:zc wC j N I H A G At f ty)(hk:k=15\/k=16)(m:f.length=1)(M:valid sigT (.mk k n f)=true)(r:Tr×Int)(h:uk ty k (kd f 0)=some r):aY prog 151 #[.agg #[.slice A G.length ca,j0 k,j0 n,.slice At f.length ct,.func (.func 105) #[] #[O2 I,O2 H]]] j (n9 N j r):=by
 have v:=hdq (Dw M m hk);obtain⟨s,c,D,T,J⟩:=g8 h;clear h M hk;obtain⟨b,o,rfl,-,O9,P3,P6,Q5,R6,L⟩:=q16 q.hK m;have hp:=gL m;have U:=hdq m;clear m;go_enter func151,ntmps151;go_wp2_with fail;generalize p:aO (aO j _) _=Z;obtain⟨d,br,S⟩:=Nf p.symm q.hN;have z:=hdq (q.keep d (g:=j.heap.size+1) (aR _) (D1 br));clear q;have F:=hdq (both S (L.up d (aR _)));have X:=xr Z;have Q:=F.out _ X.off;clear S p L;refine(bF k n ca ct B l9 _ _ (z.out.ext X) 0 (by rw[U.out];decide) 13 _ D.out).mono ?_;rintro e w2 ⟨u,rfl,hT,e⟩;replace X:=X.trans e;replace Q:=F.out _ X.off;obtain⟨ka,na,O⟩:=s;obtain⟨A1,c1,rfl,-,-,hK⟩:=InT.mk_iff.1 hT;clear hT;simp only at hK⊢;obtain⟨V,t⟩ |rfl:=cz c
 · have R:=cbn (X.blk br)
   have y:=fun o=> cbn ((X.alloc o).blk br)
   go_wp2_with fail;exact v9 (by simp[aS,results151,go_sem,R,y]) (J.out V.out) (((d.trans X).alloc _).set3 (aR _) _ _ _) rfl
 obtain⟨-,a,hv⟩:=vi D.out;have hr:=T.out rfl;simp only[Tr.kids] at a hv hr hK;have a:O.length=2:=by have:S0 13=2:=rfl;omega
 have av:=hdq (show valid sigT (kd O 1)=true from qd hv (i:=1) (by simp only[Tr.kids];omega));clear D T J hv;obtain⟨b2,o2,rfl,C,⟨qq,pw,px,qs,rq,x⟩,f11,f12,f13,f14,W,E⟩:=y17 hK a;rw[a];clear hK a;by_cases hk:k=15
 · rw[if_pos hk] at hr
   have t3:(k==15)=true:=by simp[hk]
   clear hk;have R:=cbn (X.blk br);have y:=fun o=> cbn ((X.alloc o).blk br)
   go_wp2_with fail;exact L7 (by simp[aS,results151,go_sem,R,y]) ((x.i).later ((xr _).alloc _)) ((cN hr).symm) ((d.trans X).alloc _) (aR _) rfl
 rw[if_neg hk] at hr;have t3:(k==15)=false:=by simp[hk]
 clear hk;have HR:=hdq (cN hr);clear hr;go_wp2_with fail;generalize p:aO w2 _=w3;obtain⟨P,e⟩:=nb p;replace F:=hdq (both (rb F.out (X.trans e)) (both (k8 P (X.ne br)) (both (x.fm C e) (E.fm C e))));replace X:=X.trans e;replace z:=hdq (z.out.ext X);replace br:=X.blk br;replace d:=d.trans X;replace X:=xr w3;replace Q:=F.out _ X.off;clear p P e;clear x E C;refine rgn (j.heap.size+1) (by kernel_rfl) X ?_;replace X:=X.drew;refine B3 [0,1,2,3,4,5,6,7,8] 10 (by kernel_rfl) X.off (fun _ _ _ _ _ h=> h) ?_
 iterate 9 (refine tk rfl (by rfl) (by intro w X;have Q:=F.out _ X;go_simp;(try with_reducible rfl)) ?_;try simp only[W2])
 replace Q:=F.out _ X.off;refine H0 9 (by kernel_rfl) rfl rfl (fun K hK=> ?_)
 go_simp
 obtain⟨e,o7⟩:=Cd 25 Q.1.2.i Q.1.1.1;replace X:=X.trans e;replace Q:=F.out _ X.off;refine hK.out _ _ X.off (fun _=> ?_);refine H0 10 (by kernel_rfl) rfl rfl (fun K hK=> ?_)
 go_simp
 go_at_call 56
 refine(yk 15 o7 rfl).mono ?_;rintro e w4 ⟨rfl,hx,e⟩;replace X:=X.trans e;replace Q:=F.out _ X.off;refine hK.out _ _ X.off (fun _=> ?_);refine H0 11 (by kernel_rfl) rfl rfl (fun K hK=> ?_)
 go_simp
 go_at_call 119
 refine(dz av.out v.out Q.1.1.1 Q.2.2.2.l hx.lies').mono ?_;rintro e w5 ⟨_,_,_,_,_,rfl,hy,e⟩;replace X:=X.trans e;replace Q:=F.out _ X.off;refine hK.out _ _ X.off (fun _=> ?_);refine B3 [12,13] 5 (by kernel_rfl) X.off (fun _ _ _ _ _ h=> h) ?_
 iterate 2 (refine tk rfl (by rfl) (by intro w X;go_simp;(try with_reducible rfl)) ?_;try simp only[W2])
 refine H0 14 (by kernel_rfl) rfl rfl (fun K hK=> ?_)
 go_simp
 go_at_call 103
 refine(Mp hy).mono ?_;rintro e w6 ⟨_,_,_,_,_,rfl,Y,e⟩;replace X:=X.trans e;replace Q:=F.out _ X.off;refine hK.out _ _ X.off (fun _=> ?_);refine B3 [15,16] 2 (by kernel_rfl) X.off (fun _ _ _ _ _ h=> h) ?_
 iterate 2 (refine tk rfl (by rfl) (by intro w X;go_simp;(try with_reducible rfl)) ?_;try simp only[W2])
 have R:=cbn (X.blk br);refine H0 17 (by kernel_rfl) rfl rfl (fun K hK=> ?_)
 go_simp
 refine hK.out _ _ (X.off.set3 _ _ _) (fun _=> ?_);refine B3 [18] 0 (by kernel_rfl) (X.off.set3 _ _ _) (fun _ _ _ _ _ h=> h) ?_;refine tk rfl (by rfl) (by intro w X;go_simp;(try with_reducible rfl)) ?_
 try simp only[W2]
 refine bO (by kernel_rfl) ?_ _;go_wp2_with fail;exact L7 (by simp[aS,results151,go_sem,R]) (Y) (Od HR.out.symm) (d.trans X) (aR _) rfl
end Go.Proofs.YtckhbnmfnpolgaaGreat
namespace Go.Proofs.YtckhbnmfnpolgaaGreat
open Go.RowKit
open M (Hd HR Cv Ty j2 rc a7 O5)
theorem Wk{b:Prop}{f a:Nat}{G:List Tr}{k:Int}{ks:List Tr}{i:Nat}(d:T4 k i=0->Rl b (O0 f G (kd ks i)) (P0 a G (kd ks i)))(e:T4 k i≠0->G.length < 20->Rl b (O0 f (G++ [kd ks 0]) (kd ks i)) (P0 a (G++ [kd ks 0]) (kd ks i))):Rl b (Sa (O0 f) G k ks i) (Ma (P0 a) G k ks i):=by
 unfold Sa Ma;by_cases h:T4 k i=0
 · rw[if_pos h,if_pos h];exact d h
 · rw[if_neg h,if_neg h]
   by_cases hl:20<=G.length
   · rw[if_pos hl]
     cases f with
     |zero=> exact Rl.no _
     |succ f=>
      obtain⟨g,j,c⟩:=kd ks i;unfold O0;rw[if_pos (.inr (by simp;omega))];exact Rl.rfl' _
   · rw[if_neg hl]
     exact e h (by omega)
theorem YD{b:Prop}{f d:Nat}{G:List Tr}{A B:Tr}(hA: ∀g,d=g+1->Rl b (O0 f G A) (P0 g G A))(m: ∀g,d=g+1->G.length < 20->(∃s,Q0 (P0 g G A) 2=some (s,0))->Rl b (O0 f (G++ [A]) B) (P0 g (G++ [A]) B))
 (hn:valid sigT (.mk 3 0 [A,B])=true\/b\/rg (Q0 (O0 f (G++ [A]) B) 2)) (c:Q0 (O0 f G A) 2=none\/ ∃s,Q0 (O0 f G A) 2=some (s,0)):
 Rl b (thn (Q0 (O0 f G A) 2) fun _=> thn (Q0 (O0 f (G++ [A]) B) 2) fun _=> some (mkV (.mk 3 0 [A,B]))) (thn (some (mkV (.mk 3 0 [A,B]))) fun out=> thn (P0 d G out) fun _=> some (out,0)):=by
 by_cases hv:valid sigT (.mk 3 0 [A,B])=true
 · rw[xl _ hv]
   cases d with
   |zero=> exact Rl.no' _
   |succ g=>
    rw[show P0 (g+1) G (.mk 3 0 [A,B])=thn (Q0 (P0 g G A) 2) fun a=> thn (Q0 (Ma (P0 g) G 3 [A,B] 1) 2) fun b=> some (m7 (max a.num b.num),0) from rfl,Ee];refine((hA g rfl).frm 2).seq fun s q j=> ?_
    rw[Ee];have:Rl b (O0 f (G++ [A]) B) (Ma (P0 g) G 3 [A,B] 1):=Wk (k:=3) (ks:= [A,B]) (i:=1) (fun h=> by cases h) fun _ hl=> m g rfl hl ⟨s,j⟩
    refine(this.frm 2).seq fun n o p=> ?_
    show Rl b _ (some (.mk 3 0 [A,B],0))
    unfold mkV;rw[if_pos hv];exact Rl.rfl' _
 · rw[gE _ hv]
   rcases c with c|⟨s,c⟩
   · rw[c];exact Rl.no _
   · rw[c]
     show Rl b (thn (Q0 (O0 f (G++ [A]) B) 2) fun _=> some (mkV _)) _
     have e:some (mkV (.mk 3 0 [A,B]))=some (D2,(2:Int)):=by
      unfold mkV;rw[if_neg hv]
     rw[e];refine Rl.open (((Vn f _ _).frm 2).seq fun _=> d7.at (.inr rfl)) ?_ ?_
     · rcases hn with hn|hn|hn
       · exact absurd hn hv
       · exact .inl hn
       · exact .inr (hn.seq fun _=> rg.at (by decide))
     · intro s e
       obtain⟨t,-,l⟩:=ga e;simp at l
theorem Rl.okV{b:Prop}{x y:An}(h:Rl b x y){s:Tr}(e:y=some (s,0)):x=none\/x=some (s,0):=by
 cases x with
 |none=> exact .inl rfl
 |some p=>
  obtain⟨a,c⟩:=p;rcases h a c s 0 rfl e with⟨rfl,rfl⟩ |⟨-,-,-,-,h⟩
  · exact .inr rfl
  · cases h
theorem Rl.okS{b:Prop}{x y:An}(h:Rl b x y){s:Tr}(e:x=some (s,0)):y=none\/y=some (s,0):=by
 cases y with
 |none=> exact .inl rfl
 |some p=>
  obtain⟨a,c⟩:=p;rcases h s 0 a c e rfl with⟨rfl,rfl⟩ |⟨-,-,-,h,-⟩
  · exact .inr rfl
  · cases h
theorem GK{f:Nat}{G:List Tr}{t u:Tr}(h:O0 f G t=some (u,0)):valid sigT u=true:=by
 cases f with
 |zero=> cases h
 |succ f=>
  obtain⟨k,n,c⟩:=t;unfold O0 at h;by_cases e:valid sigT (.mk k n c)=false\/20 < G.length
  · rw[if_pos e] at h
    simp at h
  · rw[if_neg e] at h
    obtain⟨s,-,a⟩:=ga h;obtain⟨b,rfl⟩:=ai a;exact b
theorem cD{f:Nat}{G:List Tr}{k:Int}{a:List Tr}{i:Nat}{u:Tr}(h:Sa (O0 f) G k a i=some (u,0)):valid sigT u=true:=by
 unfold Sa at h
 split at h
 · exact GK h
 · exact GK h
theorem j166: ∀(f a:Nat) (G:List Tr) (t:Tr),valid sigT t=true->G.length<=20->Rl True (O0 f G t) (P0 a G t)
 |0,a,G,t=> fun _ _=> Rl.no _
 |f+1,0,G,t=> fun _ _=> Rl.no' _
 |f+1,a+1,G,.mk k n b=> fun hv hG=> by
  have ih:=fun a=> j166 f a
  have e: ∀i,i < b.length->valid sigT (kd b i)=true:=fun i hi=> qd (t:= .mk k n b) hv hi
  have hl:T4 k 1=1->1 < b.length:=fun h=> by
   have q:=Zp hv;have:S0 k=2:=by
    unfold T4 at h
    split at h
    · rename_i d
      obtain⟨-,d⟩:=d;rcases d with rfl|rfl|rfl <;> rfl
    · cases h
   omega
  refine We True hv hG (fun i hi c=> Wk (fun _=> ih _ _ _ (e i hi) hG) fun h=> absurd c h) (fun c _=> Wk (fun h=> by rw[c] at h;cases h) fun _ p=> ih _ _ _ (e 1 (hl c)) (by simp;omega)) ?_ (fun _ _=> .inl trivial) ?_ (fun _ _ _ _=> .inl trivial) (fun _ _ _ _ _=> .inl trivial)
  · intro h ⟨s,hs⟩ B hS o
    subst h;have hA:=e 0 (by have:=hl rfl;omega);obtain⟨j,l⟩:=Qu rfl o;have m:=cD hS;refine YD (fun g _=> ih g G _ hA hG) (fun g _ hl _=> ih g _ B m (by simp;omega)) (.inr (.inl trivial)) ?_;have:Rl True (Q0 (O0 f G (kd b 0)) 2) (Q0 (Ma (P0 a) G 4 b 0) 2):=(ih a G _ hA hG).frm 2;rcases this.okV hs with h|h
    · exact .inl h
    · exact .inr ⟨s,h⟩
  · intro h s hS hs
    exact ih a G s (cD hS) hG
end Go.Proofs.YtckhbnmfnpolgaaGreat
namespace Go.Proofs.YtckhbnmfnpolgaaGreat
open Go Go.RowKit
attribute [local go_sem ↓] Go.wp_at_zero Go.wp_at_succ
theorem JE{k n:Int}{a:List Tr}{x:Tr}(h:valid sigT (.mk k n a)=true)(hx:x∈a):valid sigT x=true:=wA h hx
theorem Nx(p:Tr):(if(valid sigT (shfT 1 p 0)&& valid sigT (shfT 2 p 0))=true then mkV (.mk 3 0 [.mk 6 0 [],.mk 3 0 [.mk 5 0 [okT (shfT 1 p 0),.mk 1 0 []],.mk 5 0 [okT (shfT 2 p 0),.mk 8 0 [.mk 1 1 []]]]]) else(D2,2))=mkV (Oc p):=by
 by_cases h:(valid sigT (shfT 1 p 0)&& valid sigT (shfT 2 p 0))=true
 · rw[if_pos h]
   rw[aX] at h;unfold okT;rw[if_pos h.1,if_pos h.2]
   rfl
 · rw[if_neg h]
   unfold mkV;rw[if_neg];intro hv
   apply h
   rw[aX];have a:=JE (x:= .mk 3 0 [.mk 5 0 [shfT 1 p 0,Qg 0],.mk 5 0 [shfT 2 p 0,.mk 8 0 [Qg 1]]]) hv (by simp);have b:=JE (x:= .mk 5 0 [shfT 1 p 0,Qg 0]) a (by simp);have c:=JE (x:= .mk 5 0 [shfT 2 p 0,.mk 8 0 [Qg 1]]) a (by simp);exact⟨JE b (by simp),JE c (by simp)⟩
theorem Xs{X:Tr×Int}{x:An}{Y:An}{r:Tr×Int}(h:thn (some X) (fun w=> E4 x w Y)=some r): ∃d,(X.2=0->Wa x X.1=some d)/\(X.2≠0->d=X.2)/\(d=0->Y=some r)/\(d≠0->r=(D2,d)):=by
 obtain⟨s,c,i,a,b⟩:=we h;obtain rfl:X=(s,c):=by simpa using i
 by_cases hc:c=0
 · obtain⟨d,f,g,e⟩:=Pv (a hc)
   exact⟨d,fun _=> f,fun h=> absurd hc h,g,e⟩
 · exact⟨c,fun h=> absurd h hc,fun _=> rfl,fun h=> absurd h hc,fun _=> b hc⟩
theorem oC{X:Tr×Int}{x:An}{K:Tr->Tr}{Y:Tr->An}{r:Tr×Int}(h:thn (some X) (fun s=> E4 x (K s) (Y s))=some r): ∃d,(X.2=0->Wa x (K X.1)=some d)/\(X.2≠0->d=X.2)/\(d=0->X.2=0/\Y X.1=some r)/\(d≠0->r=(D2,d)):=by
 obtain⟨s,c,i,a,b⟩:=we h;obtain rfl:X=(s,c):=by simpa using i
 by_cases hc:c=0
 · obtain⟨d,f,g,e⟩:=Pv (a hc)
   exact⟨d,fun _=> f,fun h=> absurd hc h,fun h=>⟨hc,g h⟩,e⟩
 · exact⟨c,fun h=> absurd h hc,fun _=> rfl,fun h=> absurd h hc,fun _=> b hc⟩
theorem dG(p:Tr)(f:aN)(N:Nat->Prop)(hN: ∀b,f.heap.size<=b->N b)(v:Value)(d6:InT f N p v)(hv:valid sigT p=true):aY prog 182 #[v] f (n9 N f (mkV (Oc p))):=by
 have HV:=hdq hv;have HS:=hdq (fun W (hW:Ext f W)=> d6.lies'.ext hW);have HR:=hdq (Nx p);obtain⟨k,n,r⟩:=p;obtain⟨At,ct,rfl,-⟩:=InT.mk_iff.1 d6;clear d6 hv;go_enter func182,ntmps182;go_wp2_with fail;generalize t:aO (aO f _) _=w1;obtain⟨x,br,S⟩:=sn2 t.symm hN;have F:=hdq (S);have X:=xr w1;have Q:=F.out _ X.off;clear S hN t;refine(aD _ 1 0 _ _ (HS.out _ (x.trans X)) HV.out (by omega) (by omega) (by omega) (by omega)).mono ?_;rintro e w2 ⟨u,rfl,H,e⟩;have hT:=H.at' Q.1;clear H;replace X:=X.trans e;replace Q:=F.out _ X.off;obtain⟨ta1,V,ta3,ta4,Y,rfl⟩:=hT.three;go_wp2_with fail;generalize t:aO w2 _=w3;obtain⟨J,e⟩:=nb t;replace F:=hdq (both (rb F.out (X.trans e)) (both (k8 J (X.ne br)) (hT.up e)));replace X:=X.trans e;replace br:=X.blk br;replace x:=x.trans X;replace X:=xr w3;replace Q:=F.out _ X.off;clear t J e;clear hT;refine(aD _ 2 0 _ _ (HS.out _ (x.trans X)) HV.out (by omega) (by omega) (by omega) (by omega)).mono ?_;rintro e w4 ⟨u,rfl,H,e⟩;have hT:=H.at' Q.1.1;clear H;replace X:=X.trans e;replace Q:=F.out _ X.off;obtain⟨Z,tb2,T,tb4,tb5,rfl⟩:=hT.three;go_wp2_with fail;generalize t:aO w4 _=w5;obtain⟨J,e⟩:=nb t;replace F:=hdq (both (rb F.out (X.trans e)) (both (k8 J (X.ne br)) (hT.up e)));replace X:=X.trans e;replace br:=X.blk br;replace x:=x.trans X;replace X:=xr w5;replace Q:=F.out _ X.off;clear t J e;clear hT;have HQ:=hdq (fun w N v (h:InT w N (.mk 3 0 [.mk 6 0 [],.mk 3 0 [.mk 5 0 [okT (shfT 1 (.mk k n r) 0),.mk 1 0 []],.mk 5 0 [okT (shfT 2 (.mk k n r) 0),.mk 8 0 [.mk 1 1 []]]]]) v)=>(show aY prog 103 #[v,.bool (valid sigT (shfT 1 (.mk k n r) 0)&& valid sigT (shfT 2 (.mk k n r) 0))] w (n9 N w (mkV (Oc (.mk k n r)))) from HR.out▸Np _ _ w N v h));clear HR HS HV;generalize mkV (Oc (.mk k n r))=q at*;generalize okT (shfT 1 (.mk k n r) 0)=l at*;generalize okT (shfT 2 (.mk k n r) 0)=o at*;generalize valid sigT (shfT 1 (.mk k n r) 0)=m at*;generalize valid sigT (shfT 2 (.mk k n r) 0)=y at*;refine rgn (f.heap.size+1) (by kernel_rfl) X ?_;replace X:=X.drew;refine B3 [1,5,15] 21 (by kernel_rfl) X.off (fun _ _ _ _ _ h=> h) ?_
 iterate 3 (refine tk rfl (by rfl) (by intro w X;have Q:=F.out _ X;go_simp;(try with_reducible rfl)) ?_;try simp only[W2])
 replace Q:=F.out _ X.off;refine Ci 22 40 #[true,true,true,true,true,true,true,true,true,true,true,true,true,true,true,true,true,true,true,true,true,true,false,false] 2 [Sp.tree (fun b=> N b/\b≠f.heap.size+1) (.mk 6 0 []),.any,Sp.tree (fun b=> N b/\b≠f.heap.size+1) (.mk 1 0 []),Sp.row (fun b=> N b/\b≠f.heap.size+1) [l,(.mk 1 0 [])],Sp.tree (fun b=> N b/\b≠f.heap.size+1) (.mk 5 0 [l,(.mk 1 0 [])]),.any,Sp.tree (fun b=> N b/\b≠f.heap.size+1) (.mk 1 1 []),Sp.row (fun b=> N b/\b≠f.heap.size+1) [(.mk 1 1 [])],Sp.tree (fun b=> N b/\b≠f.heap.size+1) (.mk 8 0 [(.mk 1 1 [])]),Sp.row (fun b=> N b/\b≠f.heap.size+1) [o,(.mk 8 0 [(.mk 1 1 [])])],Sp.tree (fun b=> N b/\b≠f.heap.size+1) (.mk 5 0 [o,(.mk 8 0 [(.mk 1 1 [])])]),Sp.row (fun b=> N b/\b≠f.heap.size+1) [(.mk 5 0 [l,(.mk 1 0 [])]),(.mk 5 0 [o,(.mk 8 0 [(.mk 1 1 [])])])],Sp.tree (fun b=> N b/\b≠f.heap.size+1) (.mk 3 0 [(.mk 5 0 [l,(.mk 1 0 [])]),(.mk 5 0 [o,(.mk 8 0 [(.mk 1 1 [])])])]),Sp.row (fun b=> N b/\b≠f.heap.size+1) [(.mk 6 0 []),(.mk 3 0 [(.mk 5 0 [l,(.mk 1 0 [])]),(.mk 5 0 [o,(.mk 8 0 [(.mk 1 1 [])])])])],Sp.tree (fun b=> N b/\b≠f.heap.size+1) (.mk 3 0 [(.mk 6 0 []),(.mk 3 0 [(.mk 5 0 [l,(.mk 1 0 [])]),(.mk 5 0 [o,(.mk 8 0 [(.mk 1 1 [])])])])]),.any,Sp.val (.bool m),Sp.val ((if m=true then .bool y else undef)),Sp.val (.bool (m && y)),Sp.two (fun b=> N b/\b≠f.heap.size+1) q.1 (j0 q.2),Sp.tree (fun b=> N b/\b≠f.heap.size+1) q.1,Sp.val (j0 q.2)] [0,2,3,4,6,7,8,9,10,11,12,13,14,16,17,18,19,20,21] (fun w h=>(X.trans h).off) (by kernel_rfl) rfl ?st1 ?fi1
 case st1=>
  repeat' first|exact trivial|refine And.intro ⟨_,rfl, ?_⟩ ?_
  all_goals intro a w z hE i g
  · (refine Ord.step_of rfl rfl ?_;intro K hK;go_simp;go_at_call 56;refine(Qe w 6 none 0 0).mono ?_;rintro e s ⟨rfl,d⟩;exact hK _ _ ⟨_,z,rfl,E9 hE d,Z5 _ _ _ _⟩)
  · (refine Ord.step_of rfl rfl ?_;intro K hK;go_simp;go_at_call 58;refine(VD 0 w).mono ?_;rintro e s ⟨rfl,d⟩;exact hK _ _ ⟨_,z,rfl,E9 hE d,Z5 _ _ _ _⟩)
  · (refine Ord.step_of rfl rfl ?_;intro K hK;have j:=v4 (show a.eval (.tmp 19)= m0 ta1 V ta3 ta4 Y from i 19 (by kernel_rfl));have h2:InT w (Mz _ z) (.mk 1 0 []) (a.eval (.tmp 20)):=g 2 20 (by kernel_rfl);obtain⟨_,_,_,_,_,f2⟩:=h2.three;rw[f2] at h2;replace f2:=v4 f2;go_simp;obtain⟨d,h⟩:=n7 25 (Q.1.2.2.oldG' hE) h2 (Mc Q.1.1.1 hE);exact hK _ _ ⟨_,z,rfl,E9 hE d,_,2,rfl,aP _,by decide,h⟩)
  · (refine Ord.step_of rfl rfl ?_;intro K hK;obtain⟨A3,c3,f3,Kl,Kn,Ir⟩: ∃A c,a.eval (.tmp 21)= .slice A 2 c/\2<=c/\c<=aW/\InK w (Mz _ z) A [l,(.mk 1 0 [])]:=g 3 21 (by kernel_rfl);replace f3:=v4 f3;go_simp;go_at_call 56;refine(Qe w 5 A3 2 c3).mono ?_;rintro e s ⟨rfl,d⟩;exact hK _ _ ⟨_,z,rfl,E9 hE d,InT.mk_iff.2 ⟨_,_,rfl,Kl,Kn,Ir.later d⟩⟩)
  · (refine Ord.step_of rfl rfl ?_;intro K hK;go_simp;go_at_call 58;refine(VD 1 w).mono ?_;rintro e s ⟨rfl,d⟩;exact hK _ _ ⟨_,z,rfl,E9 hE d,Z5 _ _ _ _⟩)
  · (refine Ord.step_of rfl rfl ?_;intro K hK;have h6:InT w (Mz _ z) (.mk 1 1 []) (a.eval (.tmp 24)):=g 6 24 (by kernel_rfl);obtain⟨_,_,_,_,_,f6⟩:=h6.three;rw[f6] at h6;replace f6:=v4 f6;go_simp;obtain⟨d,h⟩:=Cd 25 h6 (Mc Q.1.1.1 hE);exact hK _ _ ⟨_,z,rfl,E9 hE d,_,1,rfl,aP _,by decide,h⟩)
  · (refine Ord.step_of rfl rfl ?_;intro K hK;obtain⟨A7,c7,f7,Lm,Ka,Jb⟩: ∃A c,a.eval (.tmp 25)= .slice A 1 c/\1<=c/\c<=aW/\InK w (Mz _ z) A [(.mk 1 1 [])]:=g 7 25 (by kernel_rfl);replace f7:=v4 f7;go_simp;go_at_call 56;refine(Qe w 8 A7 1 c7).mono ?_;rintro e s ⟨rfl,d⟩;exact hK _ _ ⟨_,z,rfl,E9 hE d,InT.mk_iff.2 ⟨_,_,rfl,Lm,Ka,Jb.later d⟩⟩)
  · (refine Ord.step_of rfl rfl ?_;intro K hK;have f23:=v4 (show a.eval (.tmp 23)= m0 Z tb2 T tb4 tb5 from i 23 (by kernel_rfl));have h8:InT w (Mz _ z) (.mk 8 0 [(.mk 1 1 [])]) (a.eval (.tmp 26)):=g 8 26 (by kernel_rfl);obtain⟨_,_,_,_,_,f8⟩:=h8.three;rw[f8] at h8;replace f8:=v4 f8;go_simp;obtain⟨d,h⟩:=n7 25 (Q.2.2.oldG' hE) h8 (Mc Q.1.1.1 hE);exact hK _ _ ⟨_,z,rfl,E9 hE d,_,2,rfl,aP _,by decide,h⟩)
  · (refine Ord.step_of rfl rfl ?_;intro K hK;obtain⟨A9,c9,f9,Hk,Hy,Ja⟩: ∃A c,a.eval (.tmp 27)= .slice A 2 c/\2<=c/\c<=aW/\InK w (Mz _ z) A [o,(.mk 8 0 [(.mk 1 1 [])])]:=g 9 27 (by kernel_rfl);replace f9:=v4 f9;go_simp;go_at_call 56;refine(Qe w 5 A9 2 c9).mono ?_;rintro e s ⟨rfl,d⟩;exact hK _ _ ⟨_,z,rfl,E9 hE d,InT.mk_iff.2 ⟨_,_,rfl,Hk,Hy,Ja.later d⟩⟩)
  · (refine Ord.step_of rfl rfl ?_;intro K hK;have U:InT w (Mz _ z) (.mk 5 0 [l,(.mk 1 0 [])]) (a.eval (.tmp 22)):=g 4 22 (by kernel_rfl);obtain⟨_,_,_,_,_,f4⟩:=U.three;rw[f4] at U;replace f4:=v4 f4;have C:InT w (Mz _ z) (.mk 5 0 [o,(.mk 8 0 [(.mk 1 1 [])])]) (a.eval (.tmp 28)):=g 10 28 (by kernel_rfl);obtain⟨_,_,_,_,_,D⟩:=C.three;rw[D] at C;replace D:=v4 D;go_simp;obtain⟨d,h⟩:=n7 25 U C (Mc Q.1.1.1 hE);exact hK _ _ ⟨_,z,rfl,E9 hE d,_,2,rfl,aP _,by decide,h⟩)
  · (refine Ord.step_of rfl rfl ?_;intro K hK;obtain⟨A11,c11,I,Ed,Cu,Ch⟩: ∃A c,a.eval (.tmp 29)= .slice A 2 c/\2<=c/\c<=aW/\InK w (Mz _ z) A [(.mk 5 0 [l,(.mk 1 0 [])]),(.mk 5 0 [o,(.mk 8 0 [(.mk 1 1 [])])])]:=g 11 29 (by kernel_rfl);replace I:=v4 I;go_simp;go_at_call 56;refine(Qe w 3 A11 2 c11).mono ?_;rintro e s ⟨rfl,d⟩;exact hK _ _ ⟨_,z,rfl,E9 hE d,InT.mk_iff.2 ⟨_,_,rfl,Ed,Cu,Ch.later d⟩⟩)
  · (refine Ord.step_of rfl rfl ?_;intro K hK;have h0:InT w (Mz _ z) (.mk 6 0 []) (a.eval (.tmp 18)):=g 0 18 (by kernel_rfl);obtain⟨_,_,_,_,_,f0⟩:=h0.three;rw[f0] at h0;replace f0:=v4 f0;have K9:InT w (Mz _ z) (.mk 3 0 [(.mk 5 0 [l,(.mk 1 0 [])]),(.mk 5 0 [o,(.mk 8 0 [(.mk 1 1 [])])])]) (a.eval (.tmp 30)):=g 12 30 (by kernel_rfl);obtain⟨_,_,_,_,_,E⟩:=K9.three;rw[E] at K9;replace E:=v4 E;go_simp;obtain⟨d,h⟩:=n7 25 h0 K9 (Mc Q.1.1.1 hE);exact hK _ _ ⟨_,z,rfl,E9 hE d,_,2,rfl,aP _,by decide,h⟩)
  · (refine Ord.step_of rfl rfl ?_;intro K hK;obtain⟨A13,c13,L,Am,Dv,Dk⟩: ∃A c,a.eval (.tmp 31)= .slice A 2 c/\2<=c/\c<=aW/\InK w (Mz _ z) A [(.mk 6 0 []),(.mk 3 0 [(.mk 5 0 [l,(.mk 1 0 [])]),(.mk 5 0 [o,(.mk 8 0 [(.mk 1 1 [])])])])]:=g 13 31 (by kernel_rfl);replace L:=v4 L;go_simp;go_at_call 56;refine(Qe w 3 A13 2 c13).mono ?_;rintro e s ⟨rfl,d⟩;exact hK _ _ ⟨_,z,rfl,E9 hE d,InT.mk_iff.2 ⟨_,_,rfl,Am,Dv,Dk.later d⟩⟩)
  · (refine Ord.step_of rfl rfl ?_;intro K hK;have f33:=v4 (show a.eval (.tmp 33)= .bool m from i 33 (by kernel_rfl));go_simp;exact hK _ _ ⟨_,z,rfl,hE.id,rfl⟩)
  · (have f34:a.eval (.tmp 34)= .bool m:=g 16 34 (by kernel_rfl);have f7:=v4 (show a.eval (.tmp 7)= .bool y from i 7 (by kernel_rfl));refine Tq rfl rfl rfl f34 (fun M K hK=> ?_) (fun M=>⟨undef,z,rfl,hE.id,(show undef=(if m=true then Value.bool y else undef) from(if_neg M).symm)⟩);go_simp;exact hK _ _ ⟨_,z,rfl,hE.id,(show _=(if m=true then Value.bool y else undef) from(if_pos M).symm)⟩)
  · (refine Ord.step_of rfl rfl ?_;intro K hK;have f16:=ck (g 16 34 (by kernel_rfl)) rfl;have G:=ck (g 17 35 (by kernel_rfl)) rfl;obtain hz|hz:m=true\/m=false:=(by cases m <;> simp);all_goals(rw[hz] at f16 G;first|(rw[if_pos rfl] at G;go_simp;exact hK _ _ ⟨_,z,rfl,hE.id,(show _=Value.bool (m && y) from by rw[hz];rfl)⟩) |(go_simp;exact hK _ _ ⟨_,z,rfl,hE.id,(show _=Value.bool (m && y) from by rw[hz];rfl)⟩)))
  · (refine Ord.step_of rfl rfl ?_;intro K hK;have ia:InT w (Mz _ z) (.mk 3 0 [(.mk 6 0 []),(.mk 3 0 [(.mk 5 0 [l,(.mk 1 0 [])]),(.mk 5 0 [o,(.mk 8 0 [(.mk 1 1 [])])])])]) (a.eval (.tmp 32)):=g 14 32 (by kernel_rfl);obtain⟨_,_,_,_,_,B⟩:=ia.three;rw[B] at ia;replace B:=v4 B;have f18:=ck (g 18 36 (by kernel_rfl)) rfl;go_simp;go_at_call 103;refine(HQ.out w _ _ ia).mono ?_;rintro e s ⟨u,rfl,hu,d⟩;exact hK _ _ ⟨_,z,rfl,E9 hE d,u,rfl,hu⟩)
  · (refine Ord.step_of rfl rfl ?_;intro K hK;obtain⟨u19,j,P⟩: ∃u,a.eval (.tmp 37)= .tuple #[u,j0 q.2]/\InT w (Mz _ z) q.1 u:=g 19 37 (by kernel_rfl);replace j:=v4 j;go_simp;exact hK _ _ ⟨_,z,rfl,hE.id,P⟩)
  · (refine Ord.step_of rfl rfl ?_;intro K hK;obtain⟨u19,j,P⟩: ∃u,a.eval (.tmp 37)= .tuple #[u,j0 q.2]/\InT w (Mz _ z) q.1 u:=g 19 37 (by kernel_rfl);replace j:=v4 j;go_simp;exact hK _ _ ⟨_,z,rfl,hE.id,rfl⟩)
 case fi1=>
  intro v s z hE hG;have ht:InT s (Mz _ z) q.1 (v 20):=hG 20 (by decide) (by kernel_rfl);obtain⟨a1,a2,a3,a4,a5,B8⟩:=ht.three;rw[B8] at ht;have O:v 21= j0 q.2:=hG 21 (by decide) (by kernel_rfl);simp only[List.foldl,Ord.dstOf,dV,dR,dO,Option.bind_some,Act.put,aV,bP,bN];rw[B8,O];replace ht:=InT.mono (fun b (M:Mz _ z b)=> M.1) (fun _ _=> rfl) ht;replace X:=X.trans hE.1;replace Q:=F.out _ X.off;clear hG hE B8 O;have R:=cbn (X.blk br);refine H0 22 (by kernel_rfl) rfl rfl (fun K hK=> ?_)
  go_simp
  refine hK.out _ _ (X.off.set3 _ _ _) (fun _=> ?_);refine B3 [23] 0 (by kernel_rfl) (X.off.set3 _ _ _) (fun _ _ _ _ _ h=> h) ?_;refine tk rfl (by rfl) (by intro w X;go_simp;(try with_reducible rfl)) ?_
  try simp only[W2]
  refine bO (by kernel_rfl) ?_ _;go_wp2_with fail;exact L7 (by simp[aS,results182,go_sem,R]) (ht) (Od rfl) (x.trans X) (aR _) rfl
theorem XI{wC:aN}{p1 p2:Nat}{A:Option Addr}{G:List Tr}{At:Option Addr}{d:List Tr}{ty:Nat->An}(k n:Int)(ca ct:Nat)(Z:d.length<=ct)(l9:ct<=aW)(m:aN)(N:Nat->Prop)(P:zc wC m N p1 p2 A G At d ty)(L:Tr->An)(hI:kf wC A ca G L)(T:d.length=2)(r:Tr×Int)(h:gr L ty (kd d 0)=some r):aY prog 143 #[.agg #[.slice A G.length ca,j0 k,j0 n,.slice At d.length ct,.func (.func 105) #[] #[O2 p1,O2 p2]]] m (n9 N m r):=by
 have jo:=hdq hI;obtain⟨sA,c,H1,D,C⟩:=g8 h;clear h hI;obtain⟨b,o,rfl,-,⟨O9,P3,P6,Q5,R6,K0⟩,eh,ax,dv,df,bm,U⟩:=y17 P.hK T;have hp:=mL T;have J3:=hdq T;clear T;go_enter func143,ntmps143;go_wp2_with fail;generalize H:aO (aO m _) _=w1;obtain⟨l,br,S⟩:=Nf H.symm P.hN;have j:=hdq (P.keep l (g:=m.heap.size+1) (aR _) (D1 br));clear P;have F:=hdq (both S (both (K0.up l (aR _)) (U.up l (aR _))));have X:=xr w1;have Q:=F.out _ X.off;clear S H K0 U;refine(lD k n ca ct Z l9 _ _ (j.out.ext X) 0 (by rw[J3.out];decide) _ H1.out).mono ?_;rintro e w2 ⟨rfl,e⟩;replace X:=X.trans e;replace Q:=F.out _ X.off;simp only;obtain⟨s,t⟩ |rfl:=cz c
 · have R:=cbn (X.blk br)
   go_wp2_with fail;exact v9 (by simp[aS,results143,go_sem,R]) (C.out s.out) ((l.trans X).set3 (aR _) _ _ _) rfl
 obtain⟨f,c,G1,G2,G3⟩:=g8 (D.out rfl);clear H1 D C;go_wp2_with fail;refine((j.out.ext X).hT _ _ (j.out.ext X).hx (j.out.ext X).hN (j.out.ext X).hG (j.out.ext X).hK 1 (by rw[J3.out];decide) _ G1.out).mono ?_;rintro e w3 ⟨u,rfl,hT,e⟩;replace X:=X.trans e;replace Q:=F.out _ X.off;obtain⟨u1,u2,u3,u4,u5,rfl⟩:=hT.three;simp only;obtain⟨s,t⟩ |rfl:=cz c
 · have R:=cbn (X.blk br)
   have E:=fun o=> cbn ((X.alloc o).blk br)
   go_wp2_with fail;exact v9 (by simp[aS,results143,go_sem,R,E]) (G3.out s.out) (((l.trans X).alloc _).set3 (aR _) _ _ _) rfl
 obtain⟨D,C⟩:=TI (G2.out rfl);clear G1 G2 G3;obtain⟨Y,y⟩: ∃Y,Y=Tr.mk 3 0 [kd d 0,f]:=⟨_,rfl⟩;rw[<-y] at D C;have HY:=hdq y;clear y;go_wp2_with fail;generalize H:aO w3 _=w4;obtain⟨M,e⟩:=nb H;replace F:=hdq (both (rb F.out (X.trans e)) (both (k8 M (X.ne br)) (hT.up e)));replace X:=X.trans e;replace j:=hdq (j.out.ext X);replace br:=X.blk br;replace l:=l.trans X;replace X:=xr w4;replace Q:=F.out _ X.off;clear H M e;clear hT;refine rgn (m.heap.size+1) (by kernel_rfl) X ?_;replace X:=X.drew;refine B3 [0,1,2,3,4,5] 9 (by kernel_rfl) X.off (fun _ _ _ _ _ h=> h) ?_
 iterate 6 (refine tk rfl (by rfl) (by intro w X;have Q:=F.out _ X;go_simp;(try with_reducible rfl)) ?_;try simp only[W2])
 replace Q:=F.out _ X.off;refine fk 13 58 11 #[true,true,true,true,true,true,true,true,true,true,true,true,true,false,false] 2 [.any,.any,.any,.any,.any,.any,Sp.row (fun b=> N b/\b≠m.heap.size+1) [kd d 0,f],Sp.tree (fun b=> N b/\b≠m.heap.size+1) (.mk 3 0 [kd d 0,f]),Sp.two (fun b=> N b/\b≠m.heap.size+1) (mkV (.mk 3 0 [kd d 0,f])).1 (j0 (mkV (.mk 3 0 [kd d 0,f])).2),Sp.two (fun b=> N b/\b≠m.heap.size+1) (mkV (.mk 3 0 [kd d 0,f])).1 (j0 (mkV (.mk 3 0 [kd d 0,f])).2),Sp.tree (fun b=> N b/\b≠m.heap.size+1) (mkV (.mk 3 0 [kd d 0,f])).1,Sp.val (j0 (mkV (.mk 3 0 [kd d 0,f])).2),Sp.box w4.drew] [6,7,8,9,10,11,12] (fun w h=>(X.trans h).off) (by kernel_rfl) rfl rfl (fun _ _ _ _ h=> h) ?hx2 ?st2 ?fi2
 case hx2=>(intro a w z hE p x;obtain⟨u9,q,V⟩: ∃u,a.eval (.tmp 30)= .tuple #[u,j0 (mkV (.mk 3 0 [kd d 0,f])).2]/\InT w (Mz _ z) (mkV (.mk 3 0 [kd d 0,f])).1 u:=x 9 30 (by kernel_rfl);replace q:=v4 q;exact⟨j0 (mkV (.mk 3 0 [kd d 0,f])).2,Or.inl ⟨by rfl,fun w'' _=> by go_simp⟩,rfl⟩)
 case st2=>
  repeat' first|exact trivial|refine And.intro ⟨_,rfl, ?_⟩ ?_
  all_goals(intro a w z hE p x;refine Ord.step_of rfl rfl ?_;intro K hK)
  · (have f35:=v4 (show a.eval (.tmp 35)= m0 O9 P3 P6 Q5 R6 from p 35 (by kernel_rfl));have f36:=v4 (show a.eval (.tmp 36)= m0 u1 u2 u3 u4 u5 from p 36 (by kernel_rfl));go_simp;obtain⟨B,h⟩:=n7 25 (Q.1.2.1.i.oldG' hE) (Q.2.2.oldG' hE) (Mc Q.1.1.1 hE);exact hK _ _ ⟨_,z,rfl,E9 hE B,_,2,rfl,aP _,by decide,h⟩)
  · (obtain⟨A6,c6,f6,lq,ut,ot⟩: ∃A c,a.eval (.tmp 37)= .slice A 2 c/\2<=c/\c<=aW/\InK w (Mz _ z) A [kd d 0,f]:=x 6 37 (by kernel_rfl);replace f6:=v4 f6;go_simp;go_at_call 56;refine(Qe w 3 A6 2 c6).mono ?_;rintro e O ⟨rfl,B⟩;exact hK _ _ ⟨_,z,rfl,E9 hE B,InT.mk_iff.2 ⟨_,_,rfl,lq,ut,ot.later B⟩⟩)
  · (have W:InT w (Mz _ z) (.mk 3 0 [kd d 0,f]) (a.eval (.tmp 38)):=x 7 38 (by kernel_rfl);obtain⟨_,_,_,_,_,f7⟩:=W.three;rw[f7] at W;replace f7:=v4 f7;go_simp;go_at_call 103;refine(Qi W).mono ?_;rintro e O ⟨_,_,_,_,_,rfl,hu,B⟩;exact hK _ _ ⟨_,z,rfl,E9 hE B,_,rfl,hu⟩)
  · (obtain⟨u8,f8,h8⟩: ∃u,a.eval (.tmp 39)= .tuple #[u,j0 (mkV (.mk 3 0 [kd d 0,f])).2]/\InT w (Mz _ z) (mkV (.mk 3 0 [kd d 0,f])).1 u:=x 8 39 (by kernel_rfl);replace f8:=v4 f8;go_simp;exact hK _ _ ⟨_,z,rfl,hE.id,_,rfl,h8⟩)
  · (obtain⟨u9,q,V⟩: ∃u,a.eval (.tmp 30)= .tuple #[u,j0 (mkV (.mk 3 0 [kd d 0,f])).2]/\InT w (Mz _ z) (mkV (.mk 3 0 [kd d 0,f])).1 u:=x 9 30 (by kernel_rfl);replace q:=v4 q;go_simp;exact hK _ _ ⟨_,z,rfl,hE.id,V⟩)
  · (obtain⟨u9,q,V⟩: ∃u,a.eval (.tmp 30)= .tuple #[u,j0 (mkV (.mk 3 0 [kd d 0,f])).2]/\InT w (Mz _ z) (mkV (.mk 3 0 [kd d 0,f])).1 u:=x 9 30 (by kernel_rfl);replace q:=v4 q;go_simp;exact hK _ _ ⟨_,z,rfl,hE.id,rfl⟩)
  · (go_simp;exact hK _ _ ⟨_,_,rfl,EG.box hE,_,rfl,List.mem_cons_self ..,(show _<=w.heap.size from hE.1.size),heap_alloc_new _ _⟩)
 case fi2=>
  intro v O z hE hG;have ht:InT O (Mz _ z) (mkV (.mk 3 0 [kd d 0,f])).1 (v 10):=hG 10 (by decide) (by kernel_rfl);obtain⟨a1,a2,a3,a4,a5,B8⟩:=ht.three;rw[B8] at ht;obtain⟨gb,J,gz,bl,bx⟩: ∃g,v 12= O2 g/\g∈z/\w4.drew.heap.size<=g/\O.heap[g]? =_:=hG 12 (by decide) (by kernel_rfl);have hv3:v 11= j0 (mkV (.mk 3 0 [kd d 0,f])).2:=hG 11 (by decide) (by kernel_rfl);simp only[List.foldl,Ord.dstOf,dV,dR,dO,Option.bind_some,Act.put,aV,bP,bN];rw[B8,J,hv3];replace ht:=(InT.mono (fun b (hb:Mz _ z b)=>(⟨hb.1,fun h=> hb.2 (h▸gz)⟩:(fun b=> N b/\b≠m.heap.size+1) b/\b≠gb)) (fun _ _=> rfl) ht).ret (j0 a1) (j0 a2) (.slice a3 a4 a5);have I:=kp X bl br;have X1:=X;replace X:=X.trans hE.1;have Zx:=cbn bx;clear hG hE gz B8 J;refine H0 13 (by kernel_rfl) rfl rfl (fun K hK=> ?_)
  go_simp
  have e:=Off.new3 X (Nat.le_trans X1.size bl) bx (j0 a1) (j0 a2) (.slice a3 a4 a5);refine hK.out _ _ e.1.off (fun _=> ?_);clear hK K Zx;replace X:=e.1;have M:=e.2;generalize bT (bT (bT O _ _) _ _) _ _=w5 at*;refine B3 [14] 0 (by kernel_rfl) X.off (fun _ _ _ _ _ h=> h) ?_;refine tk rfl (by rfl) (by intro w X;go_simp;(try with_reducible rfl)) ?_
  try simp only[W2]
  refine bO (by kernel_rfl) ?_ _;clear bx e X1;replace F:=hdq (both (rb F.out X) (both (k8 M I) (ht.up (xr _))));replace j:=hdq (j.out.ext X);replace br:=X.blk br;replace l:=l.trans X;replace X:=xr w5;replace Q:=F.out _ X.off;clear M ht I bl;rw[<-HY.out] at*;obtain⟨s,t⟩ |hc:=cz (mkV Y).2
  · have R:=cbn (X.blk br)
    go_wp2_with fail;exact v9 (by simp[aS,results143,go_sem,R]) (C.out s.out) ((l.trans X).set3 (aR _) _ _ _) rfl
  rw[hc];obtain⟨sD,c,U,K2,K3⟩:=g8 (D.out hc);obtain⟨hv,y⟩:=Zt hc;have HV:=hdq (show valid sigT (mkV Y).1=true by rw[y];exact hv);clear D C hv y hc;go_wp2_with fail;refine(jo.out _ _ (j.out.ext X).hx (j.out.ext X).hN (j.out.ext X).hG _ _ Q.2.2 HV.out _ U.out).mono ?_;rintro e w6 ⟨u,rfl,hT,e⟩;replace X:=X.trans e;replace Q:=F.out _ X.off;obtain⟨_,_,_,_,_,rfl⟩:=hT.three;simp only;obtain⟨s,t⟩ |rfl:=cz c
  · have R:=cbn (X.blk br)
    have E:=fun o=> cbn ((X.alloc o).blk br)
    go_wp2_with fail;exact v9 (by simp[aS,results143,go_sem,R,E]) (K3.out s.out) (((l.trans X).alloc _).set3 (aR _) _ _ _) rfl
  have R:=cbn (X.blk br);have E:=fun o=> cbn ((X.alloc o).blk br)
  go_wp2_with fail;exact L7 (by simp[aS,results143,go_sem,R,E]) (InT.later Q.2.2 ((xr _).alloc _)) ((cN (K2.out (by trivial))).symm) ((l.trans X).alloc _) (aR _) rfl
