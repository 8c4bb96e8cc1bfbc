/-
  Lemmas towards the law, 28: InfC, MAg, InfD.
-/
import Derived.Test.YtckhbnmfnpolgaaGreatBBA
import Derived.Lib.MinMax
open Go renaming World->aK,Calls->aV,maxLen->aU,results->aQ,wpAnyH_done->bP
open Bool renaming and_eq_true->aW
open Nat renaming le_refl->aM,le_succ->aP
open Go.World renaming alloc->aN,setCell->cP
open Option.some renaming inj->bZ
open List renaming getElem?_toArray->eM,getElem?_cons_zero->dV,getElem?_cons_succ->dP,setIfInBounds_toArray->aT,set_cons_zero->bM,set_cons_succ->bL
open Go.Proofs.Tryz
set_option linter.unusedVariables false
set_option maxHeartbeats 8000000
set_option maxRecDepth 100000
namespace Go.Proofs.YtckhbnmfnpolgaaGreat
open Go Go.RowKit
attribute [local go_sem ↓] Go.wp_at_zero Go.wp_at_succ
theorem Yk{x:An}{kind:Int}{s:Tr}(h:V0 x kind=some (s,0)):s.kind=kind/\(s.kids.length:Int)=O0 kind/\j0 m0 s=true:=by
 obtain⟨u,c,b,a⟩:=Ng h;obtain⟨-,-,-,hv⟩:=Qw b;refine⟨a, ?_,hv⟩;obtain⟨k,n,d⟩:=s;have:=(Z4 (Z3 hv).1).1;rw[<-a];exact this.symm
theorem aB{x:An}{T:Tr}{c:Int}(h:af x T=some c): ∃s d,Hid (V0 x 3=some (s,d))/\Hid (d=0->(V3 (kd s.kids 0) T=0->c=(d4 (kd s.kids 1) 2).2)/\(V3 (kd s.kids 0) T≠0->c=V3 (kd s.kids 0) T))/\Hid (d≠0->c=d):=by
 unfold af at h;cases e:V0 x 3 with
 |none=> rw[e] at h;cases h
 |some q=>
  obtain⟨s,d⟩:=q;rw[e] at h;simp only at h;refine⟨s,d,hdq rfl,hdq fun hd=> ?_,hdq fun hd=> ?_⟩
  · rw[if_pos hd] at h
    refine⟨fun a=> ?_,fun a=> ?_⟩
    · rw[if_pos a] at h;simpa using h.symm
    · rw[if_neg a] at h;simpa using h.symm
  · rw[if_neg hd] at h
    simpa using h.symm
theorem EJ{N:Nat->Prop}{a d:aK}{l f i g k j m n:Value}{e p:TypeId}(t:d=(a.alloc (.cells #[l,f,i,g,k] e)).alloc (.cells #[j,m,n] p))(hN: ∀b,a.heap.size<=b->N b):
 Ext a d/\d.heap[a.heap.size]? =some (.cells #[l,f,i,g,k] e)/\ ∀c,Off a.heap.size d c->(∀b,c.heap.size<=b->N b/\b≠a.heap.size)/\c.cell? ⟨a.heap.size+1,0,none⟩=some j/\c.cell? ⟨a.heap.size+1,1,none⟩=some m/\c.cell? ⟨a.heap.size+1,2,none⟩=some n/\a.heap.size+1 < c.heap.size:=by
 obtain⟨q,u,s,o⟩:=box2 t;exact⟨o,q,both (fun c h b r=> Oa hN o.size (by omega) b (Nat.le_trans h.1 r)) (U9 u (by omega))⟩
theorem Sm(k:Int){w:aK}{N:Nat->Prop}{A:Option Addr}{c:Nat}{b:List Tr}(hK:InK w N A b)(hc:(b.length==c && decide (c < 9))=true):
 aV prog 56 #[.int .i64 k,.slice A c c] w fun e a=> e= .returned (.agg #[.int .i64 k,.int .i64 0,.slice A c c])/\InT a N (.mk k 0 b) (.agg #[.int .i64 k,.int .i64 0,.slice A c c])/\Ext w a:=by
 simp only[aW,beq_iff_eq,decide_eq_true_eq] at hc;obtain⟨rfl,d⟩:=hc;refine(Oe w k A _ _).mono fun e a h=>⟨h.1,InT.mk_iff.2 ⟨A,_,rfl,aM _, ?_,hK.later h.2⟩,h.2⟩
 have:9<=aU:=by decide
 omega
theorem Sy(X:Tr):(if j0 m0 X=true then mkV (okT X) else(E2,2))=mkV X:=by
 by_cases h:j0 m0 X=true
 · rw[if_pos h];unfold okT;rw[if_pos h]
 · rw[if_neg h];unfold mkV;rw[if_neg h]
theorem Ms{t u:Tr}(hv:j0 m0 t=true)(g:j0 m0 u=true){w:aK}{N:Nat->Prop}(hN: ∀b,w.heap.size<=b->N b){v a:Value}(h:Lies w t v)(hl:Lies w u a):
 aV prog 119 #[v,.int .i64 0,a] w fun e d=> ∃k n A l c,e= .returned (.tuple #[.agg #[.int .i64 k,.int .i64 n,.slice A l c],.bool (j0 m0 (Q0 u t 0 0))])/\InT d N (okT (Q0 u t 0 0)) (.agg #[.int .i64 k,.int .i64 n,.slice A l c])/\Ext w d:=by
 refine(oA t 0 u w v a h hv hl g (by omega) (by omega)).mono ?_;rintro e d ⟨r,rfl,f,i⟩;have hT:=f.at' hN;obtain⟨k,n,A,l,c,rfl⟩:=hT.three;exact⟨k,n,A,l,c,rfl,hT,i⟩
theorem Vf{X:Tr}{w:aK}{N:Nat->Prop}{v:Value}(h:InT w N X v):aV prog 103 #[v,.bool true] w fun e a=> ∃k n A l c,e= .returned (.tuple #[.agg #[.int .i64 k,.int .i64 n,.slice A l c],.int .i64 (mkV X).2])/\InT a N (mkV X).1 (.agg #[.int .i64 k,.int .i64 n,.slice A l c])/\Ext w a:=by
 refine(Sr X true w N v h).mono ?_;rintro e a ⟨u,d,b,f⟩;rw[if_pos rfl] at d b;obtain⟨k,n,A,l,c,rfl⟩:=b.three;exact⟨k,n,A,l,c,d,b,f⟩
theorem Wl{X:Tr}{w:aK}{N:Nat->Prop}{v:Value}(h:InT w N (okT X) v):aV prog 103 #[v,.bool (j0 m0 X)] w fun e a=> ∃k n A l c,e= .returned (.tuple #[.agg #[.int .i64 k,.int .i64 n,.slice A l c],.int .i64 (mkV X).2])/\InT a N (mkV X).1 (.agg #[.int .i64 k,.int .i64 n,.slice A l c])/\Ext w a:=by
 refine(Sr (okT X) (j0 m0 X) w N v h).mono ?_;rintro e a ⟨u,d,b,f⟩;rw[Sy] at d b;obtain⟨k,n,A,l,c,rfl⟩:=b.three;exact⟨k,n,A,l,c,d,b,f⟩
theorem KB{E:aK}{v o:Nat}{A:Option Addr}{G:List Tr}{At:Option Addr}{f:List Tr}{ty:Nat->An}(k n:Int)(ca ct:Nat)(a:f.length<=ct)(l:ct<=aU)(b:aK)(N:Nat->Prop)(i:Rb E b N v o A G At f ty)(x:2<=f.length)(r:Tr×Int)(h:ue ty=some r):aV prog 142 #[.agg #[.slice A G.length ca,.int .i64 k,.int .i64 n,.slice At f.length ct,.func (.func 105) #[] #[.pointer (some ⟨v,0,none⟩),.pointer (some ⟨o,0,none⟩)]]] b (N9 N b r):=by
 obtain⟨u,c,p,q,z⟩:=k8 h;clear h;have B:=hdq x;clear x;go_enter func142,ntmps142;go_wp2_with fail;generalize D:aN (aN b _) _=H;obtain⟨d,br,S⟩:=Ue D.symm i.hN;have s:=hdq (i.keep d (g:=b.heap.size+1) (aP _) (O1 br));clear i;have F:=hdq (S);have X:=xr H;have Q:=F.out _ X.off;clear S D;refine(DA k n ca ct a l _ _ (s.out.ext X) 0 (by have:=B.out;omega) _ p.out).mono ?_;rintro e J ⟨rfl,e⟩;replace X:=X.trans e;replace Q:=F.out _ X.off;simp only;obtain⟨j,t⟩ |rfl:=cz c
 · have R:=cbn (X.blk br)
   go_wp2_with fail;exact ya (by simp[aQ,results142,go_sem,R]) (z.out j.out) ((d.trans X).set3 (aP _) _ _ _) rfl
 obtain⟨m,c,y,w,C⟩:=k8 (q.out rfl);clear p q z;go_wp2_with fail;refine(DA k n ca ct a l _ _ (s.out.ext X) 1 (by have:=B.out;omega) _ y.out).mono ?_;rintro e K ⟨rfl,e⟩;replace X:=X.trans e;replace Q:=F.out _ X.off;simp only;obtain⟨j,t⟩ |rfl:=cz c
 · have R:=cbn (X.blk br)
   go_wp2_with fail;exact ya (by simp[aQ,results142,go_sem,R]) (C.out j.out) ((d.trans X).set3 (aP _) _ _ _) rfl
 obtain rfl:=bZ (w.out rfl);clear y w C;go_wp2_with fail;refine(vm (max u.num m.num) _).mono ?_;rintro e I ⟨rfl,e⟩;replace X:=X.trans e;replace Q:=F.out _ X.off;have R:=cbn (X.blk br);go_wp2_with fail;exact n7 (by simp[aQ,results142,go_sem,R]) (F5 _ _ 2 (max u.num m.num)) (rfl) (d.trans X) (aP _) rfl
theorem Rz{wC:aK}{J Z:Nat}{A:Option Addr}{G:List Tr}{At:Option Addr}{p:List Tr}{ty:Nat->An}(k n:Int)(ca ct:Nat)(z:p.length<=ct)(l8:ct<=aU)(b:aK)(N:Nat->Prop)(q:Rb wC b N J Z A G At p ty)(i:Nat)(hi:i < p.length)(T:Tr)(V:Value)(hT:InT b N T V)(c:Int)(h:af (ty i) T=some c):aV prog 181 #[.agg #[.slice A G.length ca,.int .i64 k,.int .i64 n,.slice At p.length ct,.func (.func 105) #[] #[.pointer (some ⟨J,0,none⟩),.pointer (some ⟨Z,0,none⟩)]],.int .i64 i,V] b fun e w'=> e= .returned (.int .i64 c)/\Ext b w':=by
 obtain⟨s,d,r,U,j⟩:=aB h;clear h;have HI:=hdq hi;clear hi;have HW:=hdq hT;obtain⟨Y,L,P⟩:=T;obtain⟨A8,c8,rfl,-⟩:=InT.mk_iff.1 hT;clear hT;go_enter func181,ntmps181;go_wp2_with fail;generalize o:aN (aN b _) _=w1;obtain⟨m,br,S⟩:=EJ o.symm q.hN;have y:=hdq (q.keep m (g:=b.heap.size) (aM _) (O1 br));clear q;have F:=hdq (S);have X:=xr w1;have Q:=F.out _ X.off;clear S o;obtain⟨ka,na,f⟩:=s;refine(Bx k n ca ct z l8 _ _ (y.out.ext X) i HI.out 3 _ r.out).mono ?_;rintro e w2 ⟨u,rfl,hT,e⟩;replace X:=X.trans e;replace Q:=F.out _ X.off;obtain⟨A1,c1,rfl,-,-,hK⟩:=InT.mk_iff.1 hT;clear hT;simp only at hK⊢;obtain⟨C,t⟩ |rfl:=cz d
 · obtain rfl:=j.out C.out
   go_wp2_with fail;go_ret;exact⟨rfl,(m.trans X).alloc _⟩
 obtain⟨-,a,-⟩:=Yk r.out;obtain⟨D,H⟩:=U.out rfl;simp only[Tr.kids] at a hK D H;have a:f.length=2:=by have:O0 3=2:=rfl;omega
 have j:=hdq D;have x:=hdq H;clear r U D H;obtain⟨b2,o2,rfl,E,⟨ul,sk,si,ui,un,I⟩,f11,f12,f13,f14,f15,R⟩:=q17 hK a;rw[a];clear hK a;go_wp2_with fail;generalize o:aN w2 _=w3;obtain⟨O,e⟩:=nb o;replace F:=hdq (both (rb F.out (X.trans e)) (both (U9 O (X.ne br)) (both (I.fm E e) (R.fm E e))));replace X:=X.trans e;replace y:=hdq (y.out.ext X);replace br:=X.blk br;replace m:=m.trans X;replace X:=xr w3;replace Q:=F.out _ X.off;clear o O e;clear I R E;have B:=hdq (fun W (hW:Ext b W) v (hv:Lies W (kd f 0) v)=> aE (kd f 0) (.mk Y L P) W _ _ hv (HW.out.lies'.ext hW));generalize V3 (kd f 0) (.mk Y L P)=cv at B j x;have io:=hdq (fun W M hM v (hv:Lies W (kd f 1) v)=> qB (kd f 1) 2 W M hM v hv);generalize d4 (kd f 1) 2=sh at io j;obtain⟨⟨h7,h8,h9⟩,d⟩:=sh;simp only at j;refine rgn b.heap.size (by kernel_rfl) X ?_;replace X:=X.drew;refine W2 [0,1,2,3,4] 2 (by kernel_rfl) X.off (fun _ _ _ _ _ h=> h) ?_
 iterate 5 (refine tk rfl (by rfl) (by intro w X;have Q:=F.out _ X;go_simp;(try with_reducible rfl)) ?_;try simp only[I3])
 replace Q:=F.out _ X.off;refine H0 5 (by kernel_rfl) rfl rfl (fun K hK=> ?_)
 go_simp
 go_at_call 80
 refine(B.out _ (m.trans X) _ Q.2.2.1.l).mono ?_;rintro e w4 ⟨rfl,e⟩;replace X:=X.trans e;replace Q:=F.out _ X.off;refine hK.out _ _ X.off (fun _=> ?_);clear hK K;refine W2 [6] 0 (by kernel_rfl) X.off (fun _ _ _ _ _ h=> h) ?_;refine tk rfl (by rfl) (by intro w X;go_simp;(try with_reducible rfl)) ?_
 try simp only[I3]
 refine bP (by kernel_rfl) ?_ _;obtain⟨C,t⟩ |rfl:=cz cv
 · obtain rfl:=x.out C.out
   go_wp2_with fail;go_ret;exact⟨rfl,(m.trans X)⟩
 obtain rfl:=j.out (by trivial);clear j x B;go_wp2_with fail;refine(io.out _ _ Q.1.1 _ Q.2.2.2.l).mono ?_;rintro e w5 ⟨u,rfl,hT,e⟩;replace X:=X.trans e;replace Q:=F.out _ X.off;go_wp2_with fail;go_ret;exact⟨rfl,(m.trans X)⟩
def Lt(a:Int)(b d:Option Int)(m:Nat)(c:Int):Prop:=(m=1/\c=a)\/(m=2/\a=0/\b=some c)\/(m=3/\a=0/\b=some 0/\d=some c)
theorem aI{ty:Nat->An}{T:Tr}{r:Tr×Int}(h:Le ty T=some r): ∃s j,V0 (ty 0) 2=some (s,j)/\ ∀(m:Nat) (c:Int),Lt j (Ba (ty 1) T) (Ba (ty 2) T) m c->
 (c=0->m<=2-> ∃d,Ba (ty m) T=some d/\Lt j (Ba (ty 1) T) (Ba (ty 2) T) (m+1) d)/\(c≠0->r=(E2,c))/\(c=0->2 < m->r=(m6 s.num,0))/\1<=m/\m<=3:=by
 rcases Vp h with⟨k,g,u⟩ |⟨k,c,g,hc,rfl⟩
 · refine⟨k,0,g,fun m c hm=> ?_⟩
   obtain⟨i,e,n,t⟩:=ku u;rcases hm with⟨rfl,rfl⟩ |⟨rfl,-,a⟩ |⟨rfl,-,a,o⟩
   · exact⟨fun _ _=>⟨i,e,.inr (.inl ⟨rfl,rfl,e⟩)⟩,fun h=> absurd rfl h,fun _ h=> absurd h (by omega),by omega,by omega⟩
   · obtain rfl:i=c:=by rw[e] at a;simpa using a
     refine⟨fun q _=> ?_,t,fun _ h=> absurd h (by omega),by omega,by omega⟩;subst q;obtain⟨l,f,p,b⟩:=ku (n rfl);exact⟨l,f,.inr (.inr ⟨rfl,rfl,e,f⟩)⟩
   · obtain rfl:i=0:=by rw[e] at a;simpa using a
     obtain⟨l,f,p,b⟩:=ku (n rfl);obtain rfl:l=c:=by rw[f] at o;simpa using o
     exact⟨fun _ h=> absurd h (by omega),b,fun h _=> by have:=p h;simpa using this.symm,by omega,by omega⟩
 · refine⟨k,c,g,fun m d hm=> ?_⟩
   rcases hm with⟨rfl,rfl⟩ |⟨-,a,-⟩ |⟨-,a,-⟩
   · exact⟨fun h=> absurd h hc,fun _=> rfl,fun h=> absurd h hc,by omega,by omega⟩
   · exact absurd a hc
   · exact absurd a hc
theorem oI{Z:aK}{J T:Nat}{A:Option Addr}{G:List Tr}{At:Option Addr}{f:List Tr}{ty:Nat->An}(k n:Int)(ca ct:Nat)(p:f.length<=ct)(C:ct<=aU)(j:aK)(N:Nat->Prop)(u:Rb Z j N J T A G At f ty)(z:f.length=3)(r:Tr×Int)(h:Le ty (kd f 0)=some r):aV prog 148 #[.agg #[.slice A G.length ca,.int .i64 k,.int .i64 n,.slice At f.length ct,.func (.func 105) #[] #[.pointer (some ⟨J,0,none⟩),.pointer (some ⟨T,0,none⟩)]]] j (N9 N j r):=by
 obtain⟨s,I,M,L⟩:=aI h;have V:=hdq M;have H2:=hdq L;clear h M L;obtain⟨b,o,rfl,-,⟨O3,N6,O6,O7,O9,E⟩,-⟩:=y20 u.hK z;have hp:=FG z;have O:=hdq z;clear z;go_enter func148,ntmps148;go_wp2_with fail;generalize U:aN (aN j _) _=w1;obtain⟨q,br,S⟩:=Ue U.symm u.hN;have H:=hdq (u.keep q (g:=j.heap.size+1) (aP _) (O1 br));clear u;have F:=hdq (both S (E.up q (aP _)));have X:=xr w1;have Q:=F.out _ X.off;clear S U E;refine(DA k n ca ct p C _ _ (H.out.ext X) 0 (by rw[O.out];decide) _ V.out).mono ?_;rintro e w2 ⟨rfl,e⟩;replace X:=X.trans e;replace Q:=F.out _ X.off;simp only;go_wp2_with fail
 go_loopw [5,6] (fun c i wr=> ∃(m:Nat) (d:Int),i= .int .i64 m/\c= .int .i64 d/\Hid (Lt I (Ba (ty 1) (kd f 0)) (Ba (ty 2) (kd f 0)) m d)/\Ext w2 wr) (fun _ i _=> 4 -(intOf i).toNat)
 case atStart=> exact⟨1,I,rfl,rfl,hdq (.inl ⟨rfl,rfl⟩),xr _⟩
 case round=>
  obtain⟨m,d,rfl,rfl,a,e⟩:=hrel;have t:=e;replace X:=X.trans e;replace Q:=F.out _ X.off;obtain⟨y,x,v,f4,f5⟩:=H2.out m d a.out;by_cases hd:d=0
  · by_cases hm:m<=2
    · obtain⟨D,P,l⟩:=y hd hm
      have W:=hdq P;have V9:=hdq l;have t1:decide ((m:Int)<=2)=true:=decide_eq_true (by omega);have Y:IntKind.i64.wrap ((m:Int)+1)=(m:Int)+1:=IntWalk.i64_in _ ⟨by omega,by omega⟩;subst hd;have B:=hdq hm;clear y x v P l hm a;go_wp2_with fail;refine rgn (j.heap.size+1) (by kernel_rfl) X ?_;replace X:=X.drew;refine W2 [0,1,2,3,4,5,6] 2 (by kernel_rfl) X.off (fun _ _ _ _ _ h=> h) ?_
      iterate 7 (refine tk rfl (by rfl) (by intro w X;have Q:=F.out _ X;go_simp;(try with_reducible rfl)) ?_;try simp only[I3])
      replace t:=t.drew;replace Q:=F.out _ X.off;refine H0 7 (by kernel_rfl) rfl rfl (fun K hK=> ?_)
      go_simp
      go_at_call 141
      refine(qD k n ca ct p C _ _ (H.out.ext X) m (by have:=B.out;rw[O.out];omega) (kd f 0) _ Q.2.i D W.out).mono ?_;rintro e w3 ⟨rfl,e⟩;replace t:=t.trans e;replace X:=X.trans e;replace Q:=F.out _ X.off;refine hK.out _ _ X.off (fun _=> ?_);clear hK K;refine W2 [8] 0 (by kernel_rfl) X.off (fun _ _ _ _ _ h=> h) ?_;refine tk rfl (by rfl) (by intro w X;go_simp;(try with_reducible rfl)) ?_
      try simp only[I3]
      refine bP (by kernel_rfl) ?_ _;go_wp2_with fail
      go_roundw
      case rel=> exact⟨m+1,D,by go_num,rfl,V9,t⟩
      case measure=> simp[intOf];omega
    · obtain rfl:=v hd (by omega)
      have t1:decide ((m:Int)<=2)=false:=decide_eq_false (by omega);subst hd;clear y x v hm a;go_wp2_with fail;refine(vm s.num _).mono ?_;rintro e w3 ⟨rfl,e⟩;replace X:=X.trans e;replace Q:=F.out _ X.off;have R:=cbn (X.blk br);go_wp2_with fail;exact n7 (by simp[aQ,results148,go_sem,R]) (F5 _ _ 2 s.num) (rfl) (q.trans X) (aP _) rfl
  · have HR:=hdq (x hd)
    have t2:(d !=0)=true:=by simp[hd]
    have t3:(d==0)=false:=by simp[hd]
    clear y x v hd a;by_cases hm:m<=2
    · have t1:decide ((m:Int)<=2)=true:=decide_eq_true (by omega)
      have R:=cbn (X.blk br);go_wp2_with fail;exact ya (by simp[aQ,results148,go_sem,R]) (HR.out) ((q.trans X).set3 (aP _) _ _ _) rfl
    · have t1:decide ((m:Int)<=2)=false:=decide_eq_false (by omega)
      have R:=cbn (X.blk br);go_wp2_with fail;exact ya (by simp[aQ,results148,go_sem,R]) (HR.out) ((q.trans X).set3 (aP _) _ _ _) rfl
theorem WC{Y:aK}{H P:Nat}{A:Option Addr}{G:List Tr}{At:Option Addr}{f:List Tr}{ty:Nat->An}(k n:Int)(ca ct:Nat)(C:f.length<=ct)(V:ct<=aU)(j:aK)(N:Nat->Prop)(q:Rb Y j N H P A G At f ty)(hk:k=15\/k=16)(m:f.length=1)(T:j0 m0 (.mk k n f)=true)(r:Tr×Int)(h:jj ty k (kd f 0)=some r):aV prog 151 #[.agg #[.slice A G.length ca,.int .i64 k,.int .i64 n,.slice At f.length ct,.func (.func 105) #[] #[.pointer (some ⟨H,0,none⟩),.pointer (some ⟨P,0,none⟩)]]] j (N9 N j r):=by
 have v:=hdq (qs T m hk);obtain⟨s,c,x,M,O⟩:=k8 h;clear h T hk;obtain⟨b,o,rfl,-,O3,N6,O6,O7,O9,E⟩:=j15 q.hK m;have hp:=SI m;have I4:=hdq m;clear m;go_enter func151,ntmps151;go_wp2_with fail;generalize p:aN (aN j _) _=w1;obtain⟨d,br,S⟩:=Ue p.symm q.hN;have B:=hdq (q.keep d (g:=j.heap.size+1) (aP _) (O1 br));clear q;have F:=hdq (both S (E.up d (aP _)));have X:=xr w1;have Q:=F.out _ X.off;clear S p E;refine(Bx k n ca ct C V _ _ (B.out.ext X) 0 (by rw[I4.out];decide) 13 _ x.out).mono ?_;rintro e w2 ⟨u,rfl,hT,e⟩;replace X:=X.trans e;replace Q:=F.out _ X.off;obtain⟨ka,na,L⟩:=s;obtain⟨A1,c1,rfl,-,-,hK⟩:=InT.mk_iff.1 hT;clear hT;simp only at hK⊢;obtain⟨HC,t⟩ |rfl:=cz c
 · have R:=cbn (X.blk br)
   have z:=fun o=> cbn ((X.alloc o).blk br)
   go_wp2_with fail;exact ya (by simp[aQ,results151,go_sem,R,z]) (O.out HC.out) (((d.trans X).alloc _).set3 (aP _) _ _ _) rfl
 obtain⟨-,a,hv⟩:=Yk x.out;have hr:=M.out rfl;simp only[Tr.kids] at a hv hr hK;have a:L.length=2:=by have:O0 13=2:=rfl;omega
 have Y3:=hdq (show j0 m0 (kd L 1)=true from Cd hv (i:=1) (by simp only[Tr.kids];omega));clear x M O hv;obtain⟨b2,o2,rfl,D,⟨ul,sk,si,ui,un,y⟩,Z,f12,f13,f14,f15,J⟩:=q17 hK a;rw[a];clear hK a;by_cases hk:k=15
 · rw[if_pos hk] at hr
   have W:(k==15)=true:=by simp[hk]
   clear hk;have R:=cbn (X.blk br);have z:=fun o=> cbn ((X.alloc o).blk br)
   go_wp2_with fail;exact n7 (by simp[aQ,results151,go_sem,R,z]) ((y.i).later ((xr _).alloc _)) ((bZ hr).symm) ((d.trans X).alloc _) (aP _) rfl
 rw[if_neg hk] at hr;have W:(k==15)=false:=by simp[hk]
 clear hk;have HR:=hdq (bZ hr);clear hr;go_wp2_with fail;generalize p:aN w2 _=w3;obtain⟨I,e⟩:=nb p;replace F:=hdq (both (rb F.out (X.trans e)) (both (U9 I (X.ne br)) (both (y.fm D e) (J.fm D e))));replace X:=X.trans e;replace B:=hdq (B.out.ext X);replace br:=X.blk br;replace d:=d.trans X;replace X:=xr w3;replace Q:=F.out _ X.off;clear p I e;clear y J D;refine rgn (j.heap.size+1) (by kernel_rfl) X ?_;replace X:=X.drew;refine W2 [0,1,2,3,4,5,6,7,8] 10 (by kernel_rfl) X.off (fun _ _ _ _ _ h=> h) ?_
 iterate 9 (refine tk rfl (by rfl) (by intro w X;have Q:=F.out _ X;go_simp;(try with_reducible rfl)) ?_;try simp only[I3])
 replace Q:=F.out _ X.off;refine H0 9 (by kernel_rfl) rfl rfl (fun K hK=> ?_)
 go_simp
 obtain⟨e,o7⟩:=Tc 25 Q.1.2.i Q.1.1.1;replace X:=X.trans e;replace Q:=F.out _ X.off;refine hK.out _ _ X.off (fun _=> ?_);clear hK K;refine H0 10 (by kernel_rfl) rfl rfl (fun K hK=> ?_)
 go_simp
 go_at_call 56
 refine(Sm 15 o7 rfl).mono ?_;rintro e w4 ⟨rfl,hx,e⟩;replace X:=X.trans e;replace Q:=F.out _ X.off;refine hK.out _ _ X.off (fun _=> ?_);clear hK K;refine H0 11 (by kernel_rfl) rfl rfl (fun K hK=> ?_)
 go_simp
 go_at_call 119
 refine(Ms Y3.out v.out Q.1.1.1 Q.2.2.2.l hx.lies').mono ?_;rintro e w5 ⟨_,_,_,_,_,rfl,hy,e⟩;replace X:=X.trans e;replace Q:=F.out _ X.off;refine hK.out _ _ X.off (fun _=> ?_);clear hK K;refine W2 [12,13] 5 (by kernel_rfl) X.off (fun _ _ _ _ _ h=> h) ?_
 iterate 2 (refine tk rfl (by rfl) (by intro w X;go_simp;(try with_reducible rfl)) ?_;try simp only[I3])
 refine H0 14 (by kernel_rfl) rfl rfl (fun K hK=> ?_)
 go_simp
 go_at_call 103
 refine(Wl hy).mono ?_;rintro e w6 ⟨_,_,_,_,_,rfl,U,e⟩;replace X:=X.trans e;replace Q:=F.out _ X.off;refine hK.out _ _ X.off (fun _=> ?_);clear hK K;refine W2 [15,16] 2 (by kernel_rfl) X.off (fun _ _ _ _ _ h=> h) ?_
 iterate 2 (refine tk rfl (by rfl) (by intro w X;go_simp;(try with_reducible rfl)) ?_;try simp only[I3])
 have R:=cbn (X.blk br);refine H0 17 (by kernel_rfl) rfl rfl (fun K hK=> ?_)
 go_simp
 refine hK.out _ _ (X.off.set3 _ _ _) (fun _=> ?_);clear hK K;refine W2 [18] 0 (by kernel_rfl) (X.off.set3 _ _ _) (fun _ _ _ _ _ h=> h) ?_;refine tk rfl (by rfl) (by intro w X;go_simp;(try with_reducible rfl)) ?_
 try simp only[I3]
 refine bP (by kernel_rfl) ?_ _;go_wp2_with fail;exact n7 (by simp[aQ,results151,go_sem,R]) (U) (me HR.out.symm) (d.trans X) (aP _) rfl
end Go.Proofs.YtckhbnmfnpolgaaGreat
namespace Go.Proofs.YtckhbnmfnpolgaaGreat
open Go.RowKit
open M (Hd HR Cv Ty M2 zc y6 W4)
theorem Vi{b:Prop}{f a:Nat}{G:List Tr}{k:Int}{ks:List Tr}{i:Nat}(c:E4 k i=0->Rl b (M0 f G (kd ks i)) (N0 a G (kd ks i)))(d:E4 k i≠0->G.length < 20->Rl b (M0 f (G++ [kd ks 0]) (kd ks i)) (N0 a (G++ [kd ks 0]) (kd ks i))):Rl b (ja (M0 f) G k ks i) (ga (N0 a) G k ks i):=by
 unfold ja ga;by_cases h:E4 k i=0
 · rw[if_pos h,if_pos h];exact c h
 · rw[if_neg h,if_neg h]
   by_cases hl:20<=G.length
   · rw[if_pos hl]
     cases f with
     |zero=> exact Rl.no _
     |succ f=>
      obtain⟨j,g,e⟩:=kd ks i;unfold M0;rw[if_pos (.inr (by simp;omega))];exact Rl.rfl' _
   · rw[if_neg hl]
     exact d h (by omega)
theorem Qy{b:Prop}{f d:Nat}{G:List Tr}{A B:Tr}(hA: ∀g,d=g+1->Rl b (M0 f G A) (N0 g G A))(l: ∀g,d=g+1->G.length < 20->(∃s,V0 (N0 g G A) 2=some (s,0))->Rl b (M0 f (G++ [A]) B) (N0 g (G++ [A]) B))
 (hn:j0 m0 (.mk 3 0 [A,B])=true\/b\/Ze (V0 (M0 f (G++ [A]) B) 2)) (c:V0 (M0 f G A) 2=none\/ ∃s,V0 (M0 f G A) 2=some (s,0)):
 Rl b (thn (V0 (M0 f G A) 2) fun _=> thn (V0 (M0 f (G++ [A]) B) 2) fun _=> some (mkV (.mk 3 0 [A,B]))) (thn (some (mkV (.mk 3 0 [A,B]))) fun out=> thn (N0 d G out) fun _=> some (out,0)):=by
 by_cases hv:j0 m0 (.mk 3 0 [A,B])=true
 · rw[nj _ hv]
   cases d with
   |zero=> exact Rl.no' _
   |succ g=>
    rw[show N0 (g+1) G (.mk 3 0 [A,B])=thn (V0 (N0 g G A) 2) fun a=> thn (V0 (ga (N0 g) G 3 [A,B] 1) 2) fun b=> some (m6 (max a.num b.num),0) from rfl,Sd];refine((hA g rfl).frm 2).seq fun s p m=> ?_
    rw[Sd];have:Rl b (M0 f (G++ [A]) B) (ga (N0 g) G 3 [A,B] 1):=Vi (k:=3) (ks:= [A,B]) (i:=1) (fun h=> by cases h) fun _ hl=> l g rfl hl ⟨s,m⟩
    refine(this.frm 2).seq fun n q o=> ?_
    show Rl b _ (some (.mk 3 0 [A,B],0))
    unfold mkV;rw[if_pos hv];exact Rl.rfl' _
 · rw[gB _ hv]
   rcases c with c|⟨s,c⟩
   · rw[c];exact Rl.no _
   · rw[c]
     show Rl b (thn (V0 (M0 f (G++ [A]) B) 2) fun _=> some (mkV _)) _
     have e:some (mkV (.mk 3 0 [A,B]))=some (E2,(2:Int)):=by
      unfold mkV;rw[if_neg hv]
     rw[e];refine Rl.open (((Nl f _ _).frm 2).seq fun _=> V5.at (.inr rfl)) ?_ ?_
     · rcases hn with hn|hn|hn
       · exact absurd hn hv
       · exact .inl hn
       · exact .inr (hn.seq fun _=> Ze.at (by decide))
     · intro s e
       obtain⟨t,-,j⟩:=v9 e;simp at j
theorem Rl.okV{b:Prop}{x y:An}(h:Rl b x y){s:Tr}(e:y=some (s,0)):x=none\/x=some (s,0):=by
 cases x with
 |none=> exact .inl rfl
 |some p=>
  obtain⟨a,c⟩:=p;rcases h a c s 0 rfl e with⟨rfl,rfl⟩ |⟨-,-,-,-,h⟩
  · exact .inr rfl
  · cases h
theorem Rl.okS{b:Prop}{x y:An}(h:Rl b x y){s:Tr}(e:x=some (s,0)):y=none\/y=some (s,0):=by
 cases y with
 |none=> exact .inl rfl
 |some p=>
  obtain⟨a,c⟩:=p;rcases h s 0 a c e rfl with⟨rfl,rfl⟩ |⟨-,-,-,h,-⟩
  · exact .inr rfl
  · cases h
theorem vF{f:Nat}{G:List Tr}{t u:Tr}(h:M0 f G t=some (u,0)):j0 m0 u=true:=by
 cases f with
 |zero=> cases h
 |succ f=>
  obtain⟨k,n,b⟩:=t;unfold M0 at h;by_cases e:j0 m0 (.mk k n b)=false\/20 < G.length
  · rw[if_pos e] at h
    simp at h
  · rw[if_neg e] at h
    obtain⟨s,-,a⟩:=v9 h;obtain⟨c,rfl⟩:=Tf a;exact c
theorem TB{f:Nat}{G:List Tr}{k:Int}{a:List Tr}{i:Nat}{u:Tr}(h:ja (M0 f) G k a i=some (u,0)):j0 m0 u=true:=by
 unfold ja at h
 split at h
 · exact vF h
 · exact vF h
theorem y162: ∀(f a:Nat) (G:List Tr) (t:Tr),j0 m0 t=true->G.length<=20->Rl True (M0 f G t) (N0 a G t)
 |0,a,G,t=> fun _ _=> Rl.no _
 |f+1,0,G,t=> fun _ _=> Rl.no' _
 |f+1,a+1,G,.mk k n b=> fun hv hG=> by
  have ih:=fun a=> y162 f a
  have d: ∀i,i < b.length->j0 m0 (kd b i)=true:=fun i hi=> Cd (t:= .mk k n b) hv hi
  have hl:E4 k 1=1->1 < b.length:=fun h=> by
   have p:=Xo hv;have:O0 k=2:=by
    unfold E4 at h
    split at h
    · rename_i e
      obtain⟨-,e⟩:=e;rcases e with rfl|rfl|rfl <;> rfl
    · cases h
   omega
  refine oe True hv hG (fun i hi c=> Vi (fun _=> ih _ _ _ (d i hi) hG) fun h=> absurd c h) (fun c _=> Vi (fun h=> by rw[c] at h;cases h) fun _ q=> ih _ _ _ (d 1 (hl c)) (by simp;omega)) ?_ (fun _ _=> .inl trivial) ?_ (fun _ _ _ _=> .inl trivial) (fun _ _ _ _ _=> .inl trivial)
  · intro h ⟨s,hs⟩ B hS j
    subst h;have hA:=d 0 (by have:=hl rfl;omega);obtain⟨m,o⟩:=Yq rfl j;have l:=TB hS;refine Qy (fun g _=> ih g G _ hA hG) (fun g _ hl _=> ih g _ B l (by simp;omega)) (.inr (.inl trivial)) ?_;have:Rl True (V0 (M0 f G (kd b 0)) 2) (V0 (ga (N0 a) G 4 b 0) 2):=(ih a G _ hA hG).frm 2;rcases this.okV hs with h|h
    · exact .inl h
    · exact .inr ⟨s,h⟩
  · intro h s hS hs
    exact ih a G s (TB hS) hG
end Go.Proofs.YtckhbnmfnpolgaaGreat
namespace Go.Proofs.YtckhbnmfnpolgaaGreat
open Go Go.RowKit
attribute [local go_sem ↓] Go.wp_at_zero Go.wp_at_succ
theorem FC{k n:Int}{a:List Tr}{x:Tr}(h:j0 m0 (.mk k n a)=true)(hx:x∈a):j0 m0 x=true:=UA h hx
theorem ms(p:Tr):(if(j0 m0 (shfT 1 p 0)&& j0 m0 (shfT 2 p 0))=true then mkV (.mk 3 0 [.mk 6 0 [],.mk 3 0 [.mk 5 0 [okT (shfT 1 p 0),.mk 1 0 []],.mk 5 0 [okT (shfT 2 p 0),.mk 8 0 [.mk 1 1 []]]]]) else(E2,2))=mkV (Wb p):=by
 by_cases h:(j0 m0 (shfT 1 p 0)&& j0 m0 (shfT 2 p 0))=true
 · rw[if_pos h]
   rw[aW] at h;unfold okT;rw[if_pos h.1,if_pos h.2]
   rfl
 · rw[if_neg h]
   unfold mkV;rw[if_neg];intro hv
   apply h
   rw[aW];have a:=FC (x:= .mk 3 0 [.mk 5 0 [shfT 1 p 0,Lf 0],.mk 5 0 [shfT 2 p 0,.mk 8 0 [Lf 1]]]) hv (by simp);have b:=FC (x:= .mk 5 0 [shfT 1 p 0,Lf 0]) a (by simp);have c:=FC (x:= .mk 5 0 [shfT 2 p 0,.mk 8 0 [Lf 1]]) a (by simp);exact⟨FC b (by simp),FC c (by simp)⟩
theorem mp{X:Tr×Int}{x:An}{Y:An}{r:Tr×Int}(h:thn (some X) (fun w=> P3 x w Y)=some r): ∃d,(X.2=0->Ba x X.1=some d)/\(X.2≠0->d=X.2)/\(d=0->Y=some r)/\(d≠0->r=(E2,d)):=by
 obtain⟨s,c,e,g,i⟩:=Xd h;obtain rfl:X=(s,c):=by simpa using e
 by_cases hc:c=0
 · obtain⟨d,a,f,b⟩:=ku (g hc)
   exact⟨d,fun _=> a,fun h=> absurd hc h,f,b⟩
 · exact⟨c,fun h=> absurd h hc,fun _=> rfl,fun h=> absurd h hc,fun _=> i hc⟩
theorem nC{X:Tr×Int}{x:An}{K:Tr->Tr}{Y:Tr->An}{r:Tr×Int}(h:thn (some X) (fun s=> P3 x (K s) (Y s))=some r): ∃d,(X.2=0->Ba x (K X.1)=some d)/\(X.2≠0->d=X.2)/\(d=0->X.2=0/\Y X.1=some r)/\(d≠0->r=(E2,d)):=by
 obtain⟨s,c,e,g,i⟩:=Xd h;obtain rfl:X=(s,c):=by simpa using e
 by_cases hc:c=0
 · obtain⟨d,a,f,b⟩:=ku (g hc)
   exact⟨d,fun _=> a,fun h=> absurd hc h,fun h=>⟨hc,f h⟩,b⟩
 · exact⟨c,fun h=> absurd h hc,fun _=> rfl,fun h=> absurd h hc,fun _=> i hc⟩
theorem MF(p:Tr)(g:aK)(N:Nat->Prop)(hN: ∀b,g.heap.size<=b->N b)(v:Value)(b8:InT g N p v)(hv:j0 m0 p=true):aV prog 182 #[v] g (N9 N g (mkV (Wb p))):=by
 have HV:=hdq hv;have HS:=hdq (fun W (hW:Ext g W)=> b8.lies'.ext hW);have HR:=hdq (ms p);obtain⟨k,n,s⟩:=p;obtain⟨At,ct,rfl,-⟩:=InT.mk_iff.1 b8;clear b8 hv;go_enter func182,ntmps182;go_wp2_with fail;generalize x:aN (aN g _) _=w1;obtain⟨G,br,S⟩:=sE x.symm hN;have F:=hdq (S);have X:=xr w1;have Q:=F.out _ X.off;clear S hN x;refine(oD _ 1 0 _ _ (HS.out _ (G.trans X)) HV.out (by omega) (by omega) (by omega) (by omega)).mono ?_;rintro e w2 ⟨u,rfl,J,e⟩;have hT:=J.at' Q.1;clear J;replace X:=X.trans e;replace Q:=F.out _ X.off;obtain⟨V,ta2,ta3,ta4,ta5,rfl⟩:=hT.three;go_wp2_with fail;generalize x:aN w2 _=w3;obtain⟨I,e⟩:=nb x;replace F:=hdq (both (rb F.out (X.trans e)) (both (U9 I (X.ne br)) (hT.up e)));replace X:=X.trans e;replace br:=X.blk br;replace G:=G.trans X;replace X:=xr w3;replace Q:=F.out _ X.off;clear x I e;clear hT;refine(oD _ 2 0 _ _ (HS.out _ (G.trans X)) HV.out (by omega) (by omega) (by omega) (by omega)).mono ?_;rintro e w4 ⟨u,rfl,J,e⟩;have hT:=J.at' Q.1.1;clear J;replace X:=X.trans e;replace Q:=F.out _ X.off;obtain⟨tb1,tb2,tb3,tb4,tb5,rfl⟩:=hT.three;go_wp2_with fail;generalize x:aN w4 _=w5;obtain⟨I,e⟩:=nb x;replace F:=hdq (both (rb F.out (X.trans e)) (both (U9 I (X.ne br)) (hT.up e)));replace X:=X.trans e;replace br:=X.blk br;replace G:=G.trans X;replace X:=xr w5;replace Q:=F.out _ X.off;clear x I e;clear hT;have HQ:=hdq (fun w N v (h:InT w N (.mk 3 0 [.mk 6 0 [],.mk 3 0 [.mk 5 0 [okT (shfT 1 (.mk k n s) 0),.mk 1 0 []],.mk 5 0 [okT (shfT 2 (.mk k n s) 0),.mk 8 0 [.mk 1 1 []]]]]) v)=>(show aV prog 103 #[v,.bool (j0 m0 (shfT 1 (.mk k n s) 0)&& j0 m0 (shfT 2 (.mk k n s) 0))] w (N9 N w (mkV (Wb (.mk k n s)))) from HR.out▸Sr _ _ w N v h));clear HR HS HV;generalize mkV (Wb (.mk k n s))=q at*;generalize okT (shfT 1 (.mk k n s) 0)=m at*;generalize okT (shfT 2 (.mk k n s) 0)=r at*;generalize j0 m0 (shfT 1 (.mk k n s) 0)=o at*;generalize j0 m0 (shfT 2 (.mk k n s) 0)=y at*;refine rgn (g.heap.size+1) (by kernel_rfl) X ?_;replace X:=X.drew;refine W2 [1,5,15] 21 (by kernel_rfl) X.off (fun _ _ _ _ _ h=> h) ?_
 iterate 3 (refine tk rfl (by rfl) (by intro w X;have Q:=F.out _ X;go_simp;(try with_reducible rfl)) ?_;try simp only[I3])
 replace Q:=F.out _ X.off;refine Wo 22 40 #[true,true,true,true,true,true,true,true,true,true,true,true,true,true,true,true,true,true,true,true,true,true,false,false] 2 [Sp.tree (fun b=> N b/\b≠g.heap.size+1) (.mk 6 0 []),.any,Sp.tree (fun b=> N b/\b≠g.heap.size+1) (.mk 1 0 []),Sp.row (fun b=> N b/\b≠g.heap.size+1) [m,(.mk 1 0 [])],Sp.tree (fun b=> N b/\b≠g.heap.size+1) (.mk 5 0 [m,(.mk 1 0 [])]),.any,Sp.tree (fun b=> N b/\b≠g.heap.size+1) (.mk 1 1 []),Sp.row (fun b=> N b/\b≠g.heap.size+1) [(.mk 1 1 [])],Sp.tree (fun b=> N b/\b≠g.heap.size+1) (.mk 8 0 [(.mk 1 1 [])]),Sp.row (fun b=> N b/\b≠g.heap.size+1) [r,(.mk 8 0 [(.mk 1 1 [])])],Sp.tree (fun b=> N b/\b≠g.heap.size+1) (.mk 5 0 [r,(.mk 8 0 [(.mk 1 1 [])])]),Sp.row (fun b=> N b/\b≠g.heap.size+1) [(.mk 5 0 [m,(.mk 1 0 [])]),(.mk 5 0 [r,(.mk 8 0 [(.mk 1 1 [])])])],Sp.tree (fun b=> N b/\b≠g.heap.size+1) (.mk 3 0 [(.mk 5 0 [m,(.mk 1 0 [])]),(.mk 5 0 [r,(.mk 8 0 [(.mk 1 1 [])])])]),Sp.row (fun b=> N b/\b≠g.heap.size+1) [(.mk 6 0 []),(.mk 3 0 [(.mk 5 0 [m,(.mk 1 0 [])]),(.mk 5 0 [r,(.mk 8 0 [(.mk 1 1 [])])])])],Sp.tree (fun b=> N b/\b≠g.heap.size+1) (.mk 3 0 [(.mk 6 0 []),(.mk 3 0 [(.mk 5 0 [m,(.mk 1 0 [])]),(.mk 5 0 [r,(.mk 8 0 [(.mk 1 1 [])])])])]),.any,Sp.val (.bool o),Sp.val ((if o=true then .bool y else undef)),Sp.val (.bool (o && y)),Sp.two (fun b=> N b/\b≠g.heap.size+1) q.1 (.int .i64 q.2),Sp.tree (fun b=> N b/\b≠g.heap.size+1) q.1,Sp.val (.int .i64 q.2)] [0,2,3,4,6,7,8,9,10,11,12,13,14,16,17,18,19,20,21] (fun w h=>(X.trans h).off) (by kernel_rfl) rfl ?st1 ?fi1
 case st1=>
  repeat' first|exact trivial|refine And.intro ⟨_,rfl, ?_⟩ ?_
  all_goals intro a w z f j i
  · (refine Ord.step_of rfl rfl ?_;intro K hK;go_simp;go_at_call 56;refine(Oe w 6 none 0 0).mono ?_;rintro e t ⟨rfl,d⟩;exact hK _ _ ⟨_,z,rfl,Ma f d,F5 _ _ _ _⟩)
  · (refine Ord.step_of rfl rfl ?_;intro K hK;go_simp;go_at_call 58;refine(nD 0 w).mono ?_;rintro e t ⟨rfl,d⟩;exact hK _ _ ⟨_,z,rfl,Ma f d,F5 _ _ _ _⟩)
  · (refine Ord.step_of rfl rfl ?_;intro K hK;have l:=S4 (show a.eval (.tmp 19)= .agg #[.int .i64 V,.int .i64 ta2,.slice ta3 ta4 ta5] from j 19 (by kernel_rfl));have Y:InT w (Mz _ z) (.mk 1 0 []) (a.eval (.tmp 20)):=i 2 20 (by kernel_rfl);obtain⟨_,_,_,_,_,Z⟩:=Y.three;rw[Z] at Y;replace Z:=S4 Z;go_simp;obtain⟨d,h⟩:=k7 25 (Q.1.2.2.oldG' f) Y (Re Q.1.1.1 f);exact hK _ _ ⟨_,z,rfl,Ma f d,_,2,rfl,aM _,by decide,h⟩)
  · (refine Ord.step_of rfl rfl ?_;intro K hK;obtain⟨A3,c3,f3,Hh,Kg,Il⟩: ∃A c,a.eval (.tmp 21)= .slice A 2 c/\2<=c/\c<=aU/\InK w (Mz _ z) A [m,(.mk 1 0 [])]:=i 3 21 (by kernel_rfl);replace f3:=S4 f3;go_simp;go_at_call 56;refine(Oe w 5 A3 2 c3).mono ?_;rintro e t ⟨rfl,d⟩;exact hK _ _ ⟨_,z,rfl,Ma f d,InT.mk_iff.2 ⟨_,_,rfl,Hh,Kg,Il.later d⟩⟩)
  · (refine Ord.step_of rfl rfl ?_;intro K hK;go_simp;go_at_call 58;refine(nD 1 w).mono ?_;rintro e t ⟨rfl,d⟩;exact hK _ _ ⟨_,z,rfl,Ma f d,F5 _ _ _ _⟩)
  · (refine Ord.step_of rfl rfl ?_;intro K hK;have h6:InT w (Mz _ z) (.mk 1 1 []) (a.eval (.tmp 24)):=i 6 24 (by kernel_rfl);obtain⟨_,_,_,_,_,f6⟩:=h6.three;rw[f6] at h6;replace f6:=S4 f6;go_simp;obtain⟨d,h⟩:=Tc 25 h6 (Re Q.1.1.1 f);exact hK _ _ ⟨_,z,rfl,Ma f d,_,1,rfl,aM _,by decide,h⟩)
  · (refine Ord.step_of rfl rfl ?_;intro K hK;obtain⟨A7,c7,f7,Hb,Ko,Gn⟩: ∃A c,a.eval (.tmp 25)= .slice A 1 c/\1<=c/\c<=aU/\InK w (Mz _ z) A [(.mk 1 1 [])]:=i 7 25 (by kernel_rfl);replace f7:=S4 f7;go_simp;go_at_call 56;refine(Oe w 8 A7 1 c7).mono ?_;rintro e t ⟨rfl,d⟩;exact hK _ _ ⟨_,z,rfl,Ma f d,InT.mk_iff.2 ⟨_,_,rfl,Hb,Ko,Gn.later d⟩⟩)
  · (refine Ord.step_of rfl rfl ?_;intro K hK;have f23:=S4 (show a.eval (.tmp 23)= .agg #[.int .i64 tb1,.int .i64 tb2,.slice tb3 tb4 tb5] from j 23 (by kernel_rfl));have U:InT w (Mz _ z) (.mk 8 0 [(.mk 1 1 [])]) (a.eval (.tmp 26)):=i 8 26 (by kernel_rfl);obtain⟨_,_,_,_,_,f8⟩:=U.three;rw[f8] at U;replace f8:=S4 f8;go_simp;obtain⟨d,h⟩:=k7 25 (Q.2.2.oldG' f) U (Re Q.1.1.1 f);exact hK _ _ ⟨_,z,rfl,Ma f d,_,2,rfl,aM _,by decide,h⟩)
  · (refine Ord.step_of rfl rfl ?_;intro K hK;obtain⟨A9,c9,f9,Ef,Fe,Je⟩: ∃A c,a.eval (.tmp 27)= .slice A 2 c/\2<=c/\c<=aU/\InK w (Mz _ z) A [r,(.mk 8 0 [(.mk 1 1 [])])]:=i 9 27 (by kernel_rfl);replace f9:=S4 f9;go_simp;go_at_call 56;refine(Oe w 5 A9 2 c9).mono ?_;rintro e t ⟨rfl,d⟩;exact hK _ _ ⟨_,z,rfl,Ma f d,InT.mk_iff.2 ⟨_,_,rfl,Ef,Fe,Je.later d⟩⟩)
  · (refine Ord.step_of rfl rfl ?_;intro K hK;have h4:InT w (Mz _ z) (.mk 5 0 [m,(.mk 1 0 [])]) (a.eval (.tmp 22)):=i 4 22 (by kernel_rfl);obtain⟨_,_,_,_,_,f4⟩:=h4.three;rw[f4] at h4;replace f4:=S4 f4;have E:InT w (Mz _ z) (.mk 5 0 [r,(.mk 8 0 [(.mk 1 1 [])])]) (a.eval (.tmp 28)):=i 10 28 (by kernel_rfl);obtain⟨_,_,_,_,_,B⟩:=E.three;rw[B] at E;replace B:=S4 B;go_simp;obtain⟨d,h⟩:=k7 25 h4 E (Re Q.1.1.1 f);exact hK _ _ ⟨_,z,rfl,Ma f d,_,2,rfl,aM _,by decide,h⟩)
  · (refine Ord.step_of rfl rfl ?_;intro K hK;obtain⟨A11,c11,L,yz,zh,Ay⟩: ∃A c,a.eval (.tmp 29)= .slice A 2 c/\2<=c/\c<=aU/\InK w (Mz _ z) A [(.mk 5 0 [m,(.mk 1 0 [])]),(.mk 5 0 [r,(.mk 8 0 [(.mk 1 1 [])])])]:=i 11 29 (by kernel_rfl);replace L:=S4 L;go_simp;go_at_call 56;refine(Oe w 3 A11 2 c11).mono ?_;rintro e t ⟨rfl,d⟩;exact hK _ _ ⟨_,z,rfl,Ma f d,InT.mk_iff.2 ⟨_,_,rfl,yz,zh,Ay.later d⟩⟩)
  · (refine Ord.step_of rfl rfl ?_;intro K hK;have h0:InT w (Mz _ z) (.mk 6 0 []) (a.eval (.tmp 18)):=i 0 18 (by kernel_rfl);obtain⟨_,_,_,_,_,f0⟩:=h0.three;rw[f0] at h0;replace f0:=S4 f0;have J3:InT w (Mz _ z) (.mk 3 0 [(.mk 5 0 [m,(.mk 1 0 [])]),(.mk 5 0 [r,(.mk 8 0 [(.mk 1 1 [])])])]) (a.eval (.tmp 30)):=i 12 30 (by kernel_rfl);obtain⟨_,_,_,_,_,C⟩:=J3.three;rw[C] at J3;replace C:=S4 C;go_simp;obtain⟨d,h⟩:=k7 25 h0 J3 (Re Q.1.1.1 f);exact hK _ _ ⟨_,z,rfl,Ma f d,_,2,rfl,aM _,by decide,h⟩)
  · (refine Ord.step_of rfl rfl ?_;intro K hK;obtain⟨A13,c13,T,Am,Bt,Ca⟩: ∃A c,a.eval (.tmp 31)= .slice A 2 c/\2<=c/\c<=aU/\InK w (Mz _ z) A [(.mk 6 0 []),(.mk 3 0 [(.mk 5 0 [m,(.mk 1 0 [])]),(.mk 5 0 [r,(.mk 8 0 [(.mk 1 1 [])])])])]:=i 13 31 (by kernel_rfl);replace T:=S4 T;go_simp;go_at_call 56;refine(Oe w 3 A13 2 c13).mono ?_;rintro e t ⟨rfl,d⟩;exact hK _ _ ⟨_,z,rfl,Ma f d,InT.mk_iff.2 ⟨_,_,rfl,Am,Bt,Ca.later d⟩⟩)
  · (refine Ord.step_of rfl rfl ?_;intro K hK;have f33:=S4 (show a.eval (.tmp 33)= .bool o from j 33 (by kernel_rfl));go_simp;exact hK _ _ ⟨_,z,rfl,f.id,rfl⟩)
  · (have f34:a.eval (.tmp 34)= .bool o:=i 16 34 (by kernel_rfl);have f7:=S4 (show a.eval (.tmp 7)= .bool y from j 7 (by kernel_rfl));refine Fm rfl rfl rfl f34 (fun M K hK=> ?_) (fun M=>⟨undef,z,rfl,f.id,(show undef=(if o=true then Value.bool y else undef) from(if_neg M).symm)⟩);go_simp;exact hK _ _ ⟨_,z,rfl,f.id,(show _=(if o=true then Value.bool y else undef) from(if_pos M).symm)⟩)
  · (refine Ord.step_of rfl rfl ?_;intro K hK;have f16:=Ei (i 16 34 (by kernel_rfl)) rfl;have P:=Ei (i 17 35 (by kernel_rfl)) rfl;obtain hz|hz:o=true\/o=false:=(by cases o <;> simp);all_goals(rw[hz] at f16 P;first|(rw[if_pos rfl] at P;go_simp;exact hK _ _ ⟨_,z,rfl,f.id,(show _=Value.bool (o && y) from by rw[hz];rfl)⟩) |(go_simp;exact hK _ _ ⟨_,z,rfl,f.id,(show _=Value.bool (o && y) from by rw[hz];rfl)⟩)))
  · (refine Ord.step_of rfl rfl ?_;intro K hK;have ki:InT w (Mz _ z) (.mk 3 0 [(.mk 6 0 []),(.mk 3 0 [(.mk 5 0 [m,(.mk 1 0 [])]),(.mk 5 0 [r,(.mk 8 0 [(.mk 1 1 [])])])])]) (a.eval (.tmp 32)):=i 14 32 (by kernel_rfl);obtain⟨_,_,_,_,_,D⟩:=ki.three;rw[D] at ki;replace D:=S4 D;have f18:=Ei (i 18 36 (by kernel_rfl)) rfl;go_simp;go_at_call 103;refine(HQ.out w _ _ ki).mono ?_;rintro e t ⟨u,rfl,hu,d⟩;exact hK _ _ ⟨_,z,rfl,Ma f d,u,rfl,hu⟩)
  · (refine Ord.step_of rfl rfl ?_;intro K hK;obtain⟨u19,l,H⟩: ∃u,a.eval (.tmp 37)= .tuple #[u,.int .i64 q.2]/\InT w (Mz _ z) q.1 u:=i 19 37 (by kernel_rfl);replace l:=S4 l;go_simp;exact hK _ _ ⟨_,z,rfl,f.id,H⟩)
  · (refine Ord.step_of rfl rfl ?_;intro K hK;obtain⟨u19,l,H⟩: ∃u,a.eval (.tmp 37)= .tuple #[u,.int .i64 q.2]/\InT w (Mz _ z) q.1 u:=i 19 37 (by kernel_rfl);replace l:=S4 l;go_simp;exact hK _ _ ⟨_,z,rfl,f.id,rfl⟩)
 case fi1=>
  intro v t z f hG;have ht:InT t (Mz _ z) q.1 (v 20):=hG 20 (by decide) (by kernel_rfl);obtain⟨a1,a2,a3,a4,a5,D1⟩:=ht.three;rw[D1] at ht;have O:v 21= .int .i64 q.2:=hG 21 (by decide) (by kernel_rfl);simp only[List.foldl,Ord.dstOf,eM,dV,dP,Option.bind_some,Act.put,aT,bM,bL];rw[D1,O];replace ht:=InT.mono (fun b (M:Mz _ z b)=> M.1) (fun _ _=> rfl) ht;replace X:=X.trans f.1;replace Q:=F.out _ X.off;clear hG f D1 O;have R:=cbn (X.blk br);refine H0 22 (by kernel_rfl) rfl rfl (fun K hK=> ?_)
  go_simp
  refine hK.out _ _ (X.off.set3 _ _ _) (fun _=> ?_);clear hK K;refine W2 [23] 0 (by kernel_rfl) (X.off.set3 _ _ _) (fun _ _ _ _ _ h=> h) ?_;refine tk rfl (by rfl) (by intro w X;go_simp;(try with_reducible rfl)) ?_
  try simp only[I3]
  refine bP (by kernel_rfl) ?_ _;go_wp2_with fail;exact n7 (by simp[aQ,results182,go_sem,R]) (ht) (me rfl) (G.trans X) (aP _) rfl
theorem IF{wC:aK}{p1 p2:Nat}{A:Option Addr}{G:List Tr}{At:Option Addr}{d:List Tr}{ty:Nat->An}(k n:Int)(ca ct:Nat)(hlt:d.length<=ct)(l8:ct<=aU)(m:aK)(N:Nat->Prop)(T:Rb wC m N p1 p2 A G At d ty)(M:Tr->An)(hI:Ce wC A ca G M)(U:d.length=2)(r:Tr×Int)(h:qn M ty (kd d 0)=some r):aV prog 143 #[.agg #[.slice A G.length ca,.int .i64 k,.int .i64 n,.slice At d.length ct,.func (.func 105) #[] #[.pointer (some ⟨p1,0,none⟩),.pointer (some ⟨p2,0,none⟩)]]] m (N9 N m r):=by
 have fy:=hdq hI;obtain⟨sA,c,H1,B,D⟩:=k8 h;clear h hI;obtain⟨b,o,rfl,-,⟨O3,N6,O6,O7,O9,K0⟩,ax,Y7,Y6,Z2,aa,V⟩:=q17 T.hK U;have hp:=JI U;have I4:=hdq U;clear U;go_enter func143,ntmps143;go_wp2_with fail;generalize P:aN (aN m _) _=w1;obtain⟨p,br,S⟩:=Ue P.symm T.hN;have l:=hdq (T.keep p (g:=m.heap.size+1) (aP _) (O1 br));clear T;have F:=hdq (both S (both (K0.up p (aP _)) (V.up p (aP _))));have X:=xr w1;have Q:=F.out _ X.off;clear S P K0 V;refine(DA k n ca ct hlt l8 _ _ (l.out.ext X) 0 (by rw[I4.out];decide) _ H1.out).mono ?_;rintro e w2 ⟨rfl,e⟩;replace X:=X.trans e;replace Q:=F.out _ X.off;simp only;obtain⟨y,t⟩ |rfl:=cz c
 · have R:=cbn (X.blk br)
   go_wp2_with fail;exact ya (by simp[aQ,results143,go_sem,R]) (D.out y.out) ((p.trans X).set3 (aP _) _ _ _) rfl
 obtain⟨f,c,G1,G2,G3⟩:=k8 (B.out rfl);clear H1 B D;go_wp2_with fail;refine((l.out.ext X).hT _ _ (l.out.ext X).hx (l.out.ext X).hN (l.out.ext X).hG (l.out.ext X).hK 1 (by rw[I4.out];decide) _ G1.out).mono ?_;rintro e w3 ⟨u,rfl,hT,e⟩;replace X:=X.trans e;replace Q:=F.out _ X.off;obtain⟨u1,u2,u3,u4,u5,rfl⟩:=hT.three;simp only;obtain⟨y,t⟩ |rfl:=cz c
 · have R:=cbn (X.blk br)
   have H:=fun o=> cbn ((X.alloc o).blk br)
   go_wp2_with fail;exact ya (by simp[aQ,results143,go_sem,R,H]) (G3.out y.out) (((p.trans X).alloc _).set3 (aP _) _ _ _) rfl
 obtain⟨B,D⟩:=OD (G2.out rfl);clear G1 G2 G3;obtain⟨Y,E⟩: ∃Y,Y=Tr.mk 3 0 [kd d 0,f]:=⟨_,rfl⟩;rw[<-E] at B D;have HY:=hdq E;clear E;go_wp2_with fail;generalize P:aN w3 _=w4;obtain⟨J,e⟩:=nb P;replace F:=hdq (both (rb F.out (X.trans e)) (both (U9 J (X.ne br)) (hT.up e)));replace X:=X.trans e;replace l:=hdq (l.out.ext X);replace br:=X.blk br;replace p:=p.trans X;replace X:=xr w4;replace Q:=F.out _ X.off;clear P J e;clear hT;refine rgn (m.heap.size+1) (by kernel_rfl) X ?_;replace X:=X.drew;refine W2 [0,1,2,3,4,5] 9 (by kernel_rfl) X.off (fun _ _ _ _ _ h=> h) ?_
 iterate 6 (refine tk rfl (by rfl) (by intro w X;have Q:=F.out _ X;go_simp;(try with_reducible rfl)) ?_;try simp only[I3])
 replace Q:=F.out _ X.off;refine Wi 13 58 11 #[true,true,true,true,true,true,true,true,true,true,true,true,true,false,false] 2 [.any,.any,.any,.any,.any,.any,Sp.row (fun b=> N b/\b≠m.heap.size+1) [kd d 0,f],Sp.tree (fun b=> N b/\b≠m.heap.size+1) (.mk 3 0 [kd d 0,f]),Sp.two (fun b=> N b/\b≠m.heap.size+1) (mkV (.mk 3 0 [kd d 0,f])).1 (.int .i64 (mkV (.mk 3 0 [kd d 0,f])).2),Sp.two (fun b=> N b/\b≠m.heap.size+1) (mkV (.mk 3 0 [kd d 0,f])).1 (.int .i64 (mkV (.mk 3 0 [kd d 0,f])).2),Sp.tree (fun b=> N b/\b≠m.heap.size+1) (mkV (.mk 3 0 [kd d 0,f])).1,Sp.val (.int .i64 (mkV (.mk 3 0 [kd d 0,f])).2),Sp.box w4.drew] [6,7,8,9,10,11,12] (fun w h=>(X.trans h).off) (by kernel_rfl) rfl rfl (fun _ _ _ _ h=> h) ?hx2 ?st2 ?fi2
 case hx2=>(intro a w z j q x;obtain⟨u9,s,h9⟩: ∃u,a.eval (.tmp 30)= .tuple #[u,.int .i64 (mkV (.mk 3 0 [kd d 0,f])).2]/\InT w (Mz _ z) (mkV (.mk 3 0 [kd d 0,f])).1 u:=x 9 30 (by kernel_rfl);replace s:=S4 s;exact⟨.int .i64 (mkV (.mk 3 0 [kd d 0,f])).2,Or.inl ⟨by rfl,fun w'' _=> by go_simp⟩,rfl⟩)
 case st2=>
  repeat' first|exact trivial|refine And.intro ⟨_,rfl, ?_⟩ ?_
  all_goals(intro a w z j q x;refine Ord.step_of rfl rfl ?_;intro K hK)
  · (have f35:=S4 (show a.eval (.tmp 35)= .agg #[.int .i64 O3,.int .i64 N6,.slice O6 O7 O9] from q 35 (by kernel_rfl));have f36:=S4 (show a.eval (.tmp 36)= .agg #[.int .i64 u1,.int .i64 u2,.slice u3 u4 u5] from q 36 (by kernel_rfl));go_simp;obtain⟨C,h⟩:=k7 25 (Q.1.2.1.i.oldG' j) (Q.2.2.oldG' j) (Re Q.1.1.1 j);exact hK _ _ ⟨_,z,rfl,Ma j C,_,2,rfl,aM _,by decide,h⟩)
  · (obtain⟨A6,c6,f6,Km,Jm,Fo⟩: ∃A c,a.eval (.tmp 37)= .slice A 2 c/\2<=c/\c<=aU/\InK w (Mz _ z) A [kd d 0,f]:=x 6 37 (by kernel_rfl);replace f6:=S4 f6;go_simp;go_at_call 56;refine(Oe w 3 A6 2 c6).mono ?_;rintro e L ⟨rfl,C⟩;exact hK _ _ ⟨_,z,rfl,Ma j C,InT.mk_iff.2 ⟨_,_,rfl,Km,Jm,Fo.later C⟩⟩)
  · (have h7:InT w (Mz _ z) (.mk 3 0 [kd d 0,f]) (a.eval (.tmp 38)):=x 7 38 (by kernel_rfl);obtain⟨_,_,_,_,_,Z⟩:=h7.three;rw[Z] at h7;replace Z:=S4 Z;go_simp;go_at_call 103;refine(Vf h7).mono ?_;rintro e L ⟨_,_,_,_,_,rfl,hu,C⟩;exact hK _ _ ⟨_,z,rfl,Ma j C,_,rfl,hu⟩)
  · (obtain⟨u8,f8,h8⟩: ∃u,a.eval (.tmp 39)= .tuple #[u,.int .i64 (mkV (.mk 3 0 [kd d 0,f])).2]/\InT w (Mz _ z) (mkV (.mk 3 0 [kd d 0,f])).1 u:=x 8 39 (by kernel_rfl);replace f8:=S4 f8;go_simp;exact hK _ _ ⟨_,z,rfl,j.id,_,rfl,h8⟩)
  · (obtain⟨u9,s,h9⟩: ∃u,a.eval (.tmp 30)= .tuple #[u,.int .i64 (mkV (.mk 3 0 [kd d 0,f])).2]/\InT w (Mz _ z) (mkV (.mk 3 0 [kd d 0,f])).1 u:=x 9 30 (by kernel_rfl);replace s:=S4 s;go_simp;exact hK _ _ ⟨_,z,rfl,j.id,h9⟩)
  · (obtain⟨u9,s,h9⟩: ∃u,a.eval (.tmp 30)= .tuple #[u,.int .i64 (mkV (.mk 3 0 [kd d 0,f])).2]/\InT w (Mz _ z) (mkV (.mk 3 0 [kd d 0,f])).1 u:=x 9 30 (by kernel_rfl);replace s:=S4 s;go_simp;exact hK _ _ ⟨_,z,rfl,j.id,rfl⟩)
  · (go_simp;exact hK _ _ ⟨_,_,rfl,EG.box j,_,rfl,List.mem_cons_self ..,(show _<=w.heap.size from j.1.size),heap_alloc_new _ _⟩)
 case fi2=>
  intro v L z j hG;have ht:InT L (Mz _ z) (mkV (.mk 3 0 [kd d 0,f])).1 (v 10):=hG 10 (by decide) (by kernel_rfl);obtain⟨a1,a2,a3,a4,a5,D1⟩:=ht.three;rw[D1] at ht;obtain⟨gb,O,gz,W,bx⟩: ∃g,v 12= .pointer (some ⟨g,0,none⟩)/\g∈z/\w4.drew.heap.size<=g/\L.heap[g]? =_:=hG 12 (by decide) (by kernel_rfl);have hv3:v 11= .int .i64 (mkV (.mk 3 0 [kd d 0,f])).2:=hG 11 (by decide) (by kernel_rfl);simp only[List.foldl,Ord.dstOf,eM,dV,dP,Option.bind_some,Act.put,aT,bM,bL];rw[D1,O,hv3];replace ht:=(InT.mono (fun b (hb:Mz _ z b)=>(⟨hb.1,fun h=> hb.2 (h▸gz)⟩:(fun b=> N b/\b≠m.heap.size+1) b/\b≠gb)) (fun _ _=> rfl) ht).ret (.int .i64 a1) (.int .i64 a2) (.slice a3 a4 a5);have I:=Xf X W br;have X1:=X;replace X:=X.trans j.1;have Zx:=cbn bx;clear hG j gz D1 O;refine H0 13 (by kernel_rfl) rfl rfl (fun K hK=> ?_)
  go_simp
  have e:=Off.new3 X (Nat.le_trans X1.size W) bx (.int .i64 a1) (.int .i64 a2) (.slice a3 a4 a5);refine hK.out _ _ e.1.off (fun _=> ?_);clear hK K Zx;replace X:=e.1;have J:=e.2;generalize cP (cP (cP L _ _) _ _) _ _=w5 at*;refine W2 [14] 0 (by kernel_rfl) X.off (fun _ _ _ _ _ h=> h) ?_;refine tk rfl (by rfl) (by intro w X;go_simp;(try with_reducible rfl)) ?_
  try simp only[I3]
  refine bP (by kernel_rfl) ?_ _;clear bx e X1;replace F:=hdq (both (rb F.out X) (both (U9 J I) (ht.up (xr _))));replace l:=hdq (l.out.ext X);replace br:=X.blk br;replace p:=p.trans X;replace X:=xr w5;replace Q:=F.out _ X.off;clear J ht I W;rw[<-HY.out] at*;obtain⟨y,t⟩ |hc:=cz (mkV Y).2
  · have R:=cbn (X.blk br)
    go_wp2_with fail;exact ya (by simp[aQ,results143,go_sem,R]) (D.out y.out) ((p.trans X).set3 (aP _) _ _ _) rfl
  rw[hc];obtain⟨sD,c,V,K2,K3⟩:=k8 (B.out hc);obtain⟨hv,E⟩:=Uq hc;have HV:=hdq (show j0 m0 (mkV Y).1=true by rw[E];exact hv);clear B D hv E hc;go_wp2_with fail;refine(fy.out _ _ (l.out.ext X).hx (l.out.ext X).hN (l.out.ext X).hG _ _ Q.2.2 HV.out _ V.out).mono ?_;rintro e w6 ⟨u,rfl,hT,e⟩;replace X:=X.trans e;replace Q:=F.out _ X.off;obtain⟨_,_,_,_,_,rfl⟩:=hT.three;simp only;obtain⟨y,t⟩ |rfl:=cz c
  · have R:=cbn (X.blk br)
    have H:=fun o=> cbn ((X.alloc o).blk br)
    go_wp2_with fail;exact ya (by simp[aQ,results143,go_sem,R,H]) (K3.out y.out) (((p.trans X).alloc _).set3 (aP _) _ _ _) rfl
  have R:=cbn (X.blk br);have H:=fun o=> cbn ((X.alloc o).blk br)
  go_wp2_with fail;exact n7 (by simp[aQ,results143,go_sem,R,H]) (InT.later Q.2.2 ((xr _).alloc _)) ((bZ (K2.out (by trivial))).symm) ((p.trans X).alloc _) (aP _) rfl
