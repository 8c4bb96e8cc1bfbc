/-
  Lemmas towards the law, 28: InfC, MAg, InfD.
-/
import Derived.Test.YtckhbnmfnpolgaaGreatC00
import Derived.Test.YtckhbnmfnpolgaaGreatCBA
import Derived.Lib.MinMax
open Go renaming World->aL,Calls->aX,maxLen->aV,results->aR,wpAnyH_done->bP
open Bool renaming and_eq_true->aW
open Nat renaming le_refl->aN,le_succ->aQ
open Go.World renaming alloc->aO,setCell->cM
open Option.some renaming inj->bY
open List renaming getElem?_toArray->dZ,getElem?_cons_zero->dQ,getElem?_cons_succ->dL,setIfInBounds_toArray->aU,set_cons_zero->bN,set_cons_succ->bM
open Go.Proofs.Tryz
set_option linter.all false
set_option maxHeartbeats 8000000
set_option maxRecDepth 100000
namespace Go.Proofs.YtckhbnmfnpolgaaGreat
open Go Go.RowKit
attribute [local go_sem ↓] Go.wp_at_zero Go.wp_at_succ
theorem Mi{x:An}{kind:Int}{s:Tr}(h:X0 x kind=some (s,0)):s.kind=kind/\(s.kids.length:Int)=U0 kind/\j0 D0 s=true:=by
 obtain⟨u,c,b,a⟩:=We h;obtain⟨-,-,-,hv⟩:=Hx b;refine⟨a, ?_,hv⟩;obtain⟨k,n,d⟩:=s;have:=(Z4 (Z3 hv).1).1;rw[<-a];exact this.symm
theorem nB{x:An}{T:Tr}{c:Int}(h:lf x T=some c): ∃s d,Hid (X0 x 3=some (s,d))/\Hid (d=0->(d4 (kd s.kids 0) T=0->c=(i4 (kd s.kids 1) 2).2)/\(d4 (kd s.kids 0) T≠0->c=d4 (kd s.kids 0) T))/\Hid (d≠0->c=d):=by
 unfold lf at h;cases e:X0 x 3 with
 |none=> rw[e] at h;cases h
 |some q=>
  obtain⟨s,d⟩:=q;rw[e] at h;simp only at h;refine⟨s,d,hdq rfl,hdq fun hd=> ?_,hdq fun hd=> ?_⟩
  · rw[if_pos hd] at h
    refine⟨fun a=> ?_,fun a=> ?_⟩
    · rw[if_pos a] at h;simpa using h.symm
    · rw[if_neg a] at h;simpa using h.symm
  · rw[if_neg hd] at h
    simpa using h.symm
theorem zK{N:Nat->Prop}{a d:aL}{i m k l g j o f:Value}{e q:TypeId}(p:d=(a.alloc (.cells #[i,m,k,l,g] e)).alloc (.cells #[j,o,f] q))(hN: ∀b,a.heap.size<=b->N b):
 Ext a d/\d.heap[a.heap.size]? =some (.cells #[i,m,k,l,g] e)/\ ∀c,Off a.heap.size d c->(∀b,c.heap.size<=b->N b/\b≠a.heap.size)/\c.cell? ⟨a.heap.size+1,0,none⟩=some j/\c.cell? ⟨a.heap.size+1,1,none⟩=some o/\c.cell? ⟨a.heap.size+1,2,none⟩=some f/\a.heap.size+1 < c.heap.size:=by
 obtain⟨t,r,s,n⟩:=box2 p;exact⟨n,t,both (fun c h b u=> Ia hN n.size (by omega) b (Nat.le_trans h.1 u)) (m7 r (by omega))⟩
theorem rg(k:Int){w:aL}{N:Nat->Prop}{A:Option Addr}{c:Nat}{b:List Tr}(hK:InK w N A b)(hc:(b.length==c && decide (c < 9))=true):
 aX prog 56 #[m0 k,.slice A c c] w fun e a=> e= .returned (M0 k 0 A c c)/\InT a N (.mk k 0 b) (M0 k 0 A c c)/\Ext w a:=by
 simp only[aW,beq_iff_eq,decide_eq_true_eq] at hc;obtain⟨rfl,d⟩:=hc;refine(de w k A _ _).mono fun e a h=>⟨h.1,InT.mk_iff.2 ⟨A,_,rfl,aN _, ?_,hK.later h.2⟩,h.2⟩
 have:9<=aV:=by decide
 omega
theorem nE(X:Tr):(if j0 D0 X=true then mkV (okT X) else(j2,2))=mkV X:=by
 by_cases h:j0 D0 X=true
 · rw[if_pos h];unfold okT;rw[if_pos h]
 · rw[if_neg h];unfold mkV;rw[if_neg h]
theorem Vs{t u:Tr}(hv:j0 D0 t=true)(i:j0 D0 u=true){w:aL}{N:Nat->Prop}(hN: ∀b,w.heap.size<=b->N b){v d:Value}(h:Lies w t v)(hl:Lies w u d):
 aX prog 119 #[v,m0 0,d] w fun e a=> ∃k n A l c,e= .returned (.tuple #[M0 k n A l c,.bool (j0 D0 (Z0 u t 0 0))])/\InT a N (okT (Z0 u t 0 0)) (M0 k n A l c)/\Ext w a:=by
 refine(IC t 0 u w v d h hv hl i (by omega) (by omega)).mono ?_;rintro e a ⟨r,rfl,g,f⟩;have hT:=g.at' hN;obtain⟨k,n,A,l,c,rfl⟩:=hT.three;exact⟨k,n,A,l,c,rfl,hT,f⟩
theorem Ng{X:Tr}{w:aL}{N:Nat->Prop}{v:Value}(h:InT w N X v):aX prog 103 #[v,.bool true] w fun e a=> ∃k n A l c,e= .returned (.tuple #[M0 k n A l c,m0 (mkV X).2])/\InT a N (mkV X).1 (M0 k n A l c)/\Ext w a:=by
 refine(Am X true w N v h).mono ?_;rintro e a ⟨u,d,b,f⟩;rw[if_pos rfl] at d b;obtain⟨k,n,A,l,c,rfl⟩:=b.three;exact⟨k,n,A,l,c,d,b,f⟩
theorem Un{X:Tr}{w:aL}{N:Nat->Prop}{v:Value}(h:InT w N (okT X) v):aX prog 103 #[v,.bool (j0 D0 X)] w fun e a=> ∃k n A l c,e= .returned (.tuple #[M0 k n A l c,m0 (mkV X).2])/\InT a N (mkV X).1 (M0 k n A l c)/\Ext w a:=by
 refine(Am (okT X) (j0 D0 X) w N v h).mono ?_;rintro e a ⟨u,d,b,f⟩;rw[nE] at d b;obtain⟨k,n,A,l,c,rfl⟩:=b.three;exact⟨k,n,A,l,c,d,b,f⟩
theorem Oz{H:aL}{B w:Nat}{A:Option Addr}{G:List Tr}{At:Option Addr}{d:List Tr}{ty:Nat->An}(k n:Int)(ca ct:Nat)(b:d.length<=ct)(y:ct<=aV)(a:aL)(N:Nat->Prop)(i:Mb H a N B w A G At d ty)(m:2<=d.length)(r:Tr×Int)(h:te ty=some r):aX prog 142 #[.agg #[.slice A G.length ca,m0 k,m0 n,.slice At d.length ct,.func (.func 105) #[] #[.pointer (some ⟨B,0,none⟩),.pointer (some ⟨w,0,none⟩)]]] a (q8 N a r):=by
 obtain⟨v,c,u,C,x⟩:=a7 h;clear h;have s:=hdq m;clear m;go_enter func142,ntmps142;go_wp2_with fail;generalize l:aO (aO a _) _=E;obtain⟨f,br,S⟩:=Ze l.symm i.hN;have p:=hdq (i.keep f (g:=a.heap.size+1) (aQ _) (O1 br));clear i;have F:=hdq (S);have X:=xr E;have Q:=F.out _ X.off;clear S l;refine(rC k n ca ct b y _ _ (p.out.ext X) 0 (by have:=s.out;omega) _ u.out).mono ?_;rintro e J ⟨rfl,e⟩;replace X:=X.trans e;replace Q:=F.out _ X.off;simp only;obtain⟨j,t⟩ |rfl:=cz c
 · have R:=cbn (X.blk br)
   go_wp2_with fail;exact D9 (by simp[aR,results142,go_sem,R]) (x.out j.out) ((f.trans X).set3 (aQ _) _ _ _) rfl
 obtain⟨D,c,q,z,o⟩:=a7 (C.out rfl);clear u C x;go_wp2_with fail;refine(rC k n ca ct b y _ _ (p.out.ext X) 1 (by have:=s.out;omega) _ q.out).mono ?_;rintro e I ⟨rfl,e⟩;replace X:=X.trans e;replace Q:=F.out _ X.off;simp only;obtain⟨j,t⟩ |rfl:=cz c
 · have R:=cbn (X.blk br)
   go_wp2_with fail;exact D9 (by simp[aR,results142,go_sem,R]) (o.out j.out) ((f.trans X).set3 (aQ _) _ _ _) rfl
 obtain rfl:=bY (z.out rfl);clear q z o;go_wp2_with fail;refine(ip (max v.num D.num) _).mono ?_;rintro e K ⟨rfl,e⟩;replace X:=X.trans e;replace Q:=F.out _ X.off;have R:=cbn (X.blk br);go_wp2_with fail;exact R6 (by simp[aR,results142,go_sem,R]) (d5 _ _ 2 (max v.num D.num)) (rfl) (f.trans X) (aQ _) rfl
theorem YC{wC:aL}{U Y:Nat}{A:Option Addr}{G:List Tr}{At:Option Addr}{p:List Tr}{ty:Nat->An}(k n:Int)(ca ct:Nat)(C:p.length<=ct)(l8:ct<=aV)(b:aL)(N:Nat->Prop)(r:Mb wC b N U Y A G At p ty)(i:Nat)(hi:i < p.length)(T:Tr)(vT:Value)(hT:InT b N T vT)(c:Int)(h:lf (ty i) T=some c):aX prog 181 #[.agg #[.slice A G.length ca,m0 k,m0 n,.slice At p.length ct,.func (.func 105) #[] #[.pointer (some ⟨U,0,none⟩),.pointer (some ⟨Y,0,none⟩)]],m0 i,vT] b fun e w'=> e= .returned (m0 c)/\Ext b w':=by
 obtain⟨s,d,B,J,j⟩:=nB h;clear h;have HI:=hdq hi;clear hi;have HW:=hdq hT;obtain⟨P,Z,V⟩:=T;obtain⟨A8,c8,rfl,-⟩:=InT.mk_iff.1 hT;clear hT;go_enter func181,ntmps181;go_wp2_with fail;generalize o:aO (aO b _) _=w1;obtain⟨m,br,S⟩:=zK o.symm r.hN;have E:=hdq (r.keep m (g:=b.heap.size) (aN _) (O1 br));clear r;have F:=hdq (S);have X:=xr w1;have Q:=F.out _ X.off;clear S o;obtain⟨ka,na,f⟩:=s;refine(WB k n ca ct C l8 _ _ (E.out.ext X) i HI.out 3 _ B.out).mono ?_;rintro e w2 ⟨u,rfl,hT,e⟩;replace X:=X.trans e;replace Q:=F.out _ X.off;obtain⟨A1,c1,rfl,-,-,hK⟩:=InT.mk_iff.1 hT;clear hT;simp only at hK⊢;obtain⟨z,t⟩ |rfl:=cz d
 · obtain rfl:=j.out z.out
   go_wp2_with fail;go_ret;exact⟨rfl,(m.trans X).alloc _⟩
 obtain⟨-,a,-⟩:=Mi B.out;obtain⟨H,x⟩:=J.out rfl;simp only[Tr.kids] at a hK H x;have a:f.length=2:=by have:U0 3=2:=rfl;omega
 have j:=hdq H;have q:=hdq x;clear B J H x;obtain⟨b2,o2,rfl,D,⟨jm,jw,jq,jl,jk,O⟩,f11,f12,f13,f14,f15,L⟩:=q17 hK a;rw[a];clear hK a;go_wp2_with fail;generalize o:aO w2 _=w3;obtain⟨I,e⟩:=nb o;replace F:=hdq (both (rb F.out (X.trans e)) (both (m7 I (X.ne br)) (both (O.fm D e) (L.fm D e))));replace X:=X.trans e;replace E:=hdq (E.out.ext X);replace br:=X.blk br;replace m:=m.trans X;replace X:=xr w3;replace Q:=F.out _ X.off;clear o I e;clear O L D;have y:=hdq (fun W (hW:Ext b W) v (hv:Lies W (kd f 0) v)=> cF (kd f 0) (.mk P Z V) W _ _ hv (HW.out.lies'.ext hW));generalize d4 (kd f 0) (.mk P Z V)=cv at y j q;have R:=hdq (fun W M hM v (hv:Lies W (kd f 1) v)=> Qz (kd f 1) 2 W M hM v hv);generalize i4 (kd f 1) 2=sh at R j;obtain⟨⟨h7,h8,h9⟩,d⟩:=sh;simp only at j;refine rgn b.heap.size (by kernel_rfl) X ?_;replace X:=X.drew;refine O2 [0,1,2,3,4] 2 (by kernel_rfl) X.off (fun _ _ _ _ _ h=> h) ?_
 iterate 5 (refine tk rfl (by rfl) (by intro w X;have Q:=F.out _ X;go_simp;(try with_reducible rfl)) ?_;try simp only[N2])
 replace Q:=F.out _ X.off;refine O0 5 (by kernel_rfl) rfl rfl (fun K hK=> ?_)
 go_simp
 go_at_call 80
 refine(y.out _ (m.trans X) _ Q.2.2.1.l).mono ?_;rintro e w4 ⟨rfl,e⟩;replace X:=X.trans e;replace Q:=F.out _ X.off;refine hK.out _ _ X.off (fun _=> ?_);clear hK K;refine O2 [6] 0 (by kernel_rfl) X.off (fun _ _ _ _ _ h=> h) ?_;refine tk rfl (by rfl) (by intro w X;go_simp;(try with_reducible rfl)) ?_
 try simp only[N2]
 refine bP (by kernel_rfl) ?_ _;obtain⟨z,t⟩ |rfl:=cz cv
 · obtain rfl:=q.out z.out
   go_wp2_with fail;go_ret;exact⟨rfl,(m.trans X)⟩
 obtain rfl:=j.out (by trivial);clear j q y;go_wp2_with fail;refine(R.out _ _ Q.1.1 _ Q.2.2.2.l).mono ?_;rintro e w5 ⟨u,rfl,hT,e⟩;replace X:=X.trans e;replace Q:=F.out _ X.off;go_wp2_with fail;go_ret;exact⟨rfl,(m.trans X)⟩
def Ws(a:Int)(b d:Option Int)(m:Nat)(c:Int):Prop:=(m=1/\c=a)\/(m=2/\a=0/\b=some c)\/(m=3/\a=0/\b=some 0/\d=some c)
theorem vF{ty:Nat->An}{T:Tr}{r:Tr×Int}(h:Oe ty T=some r): ∃s i,X0 (ty 0) 2=some (s,i)/\ ∀(m:Nat) (c:Int),Ws i (pa (ty 1) T) (pa (ty 2) T) m c->
 (c=0->m<=2-> ∃d,pa (ty m) T=some d/\Ws i (pa (ty 1) T) (pa (ty 2) T) (m+1) d)/\(c≠0->r=(j2,c))/\(c=0->2 < m->r=(m6 s.num,0))/\1<=m/\m<=3:=by
 rcases Ao h with⟨g,k,p⟩ |⟨g,c,k,hc,rfl⟩
 · refine⟨g,0,k,fun m c hm=> ?_⟩
   obtain⟨j,b,n,t⟩:=Vv p;rcases hm with⟨rfl,rfl⟩ |⟨rfl,-,a⟩ |⟨rfl,-,a,o⟩
   · exact⟨fun _ _=>⟨j,b,.inr (.inl ⟨rfl,rfl,b⟩)⟩,fun h=> absurd rfl h,fun _ h=> absurd h (by omega),by omega,by omega⟩
   · obtain rfl:j=c:=by rw[b] at a;simpa using a
     refine⟨fun q _=> ?_,t,fun _ h=> absurd h (by omega),by omega,by omega⟩;subst q;obtain⟨f,h8,l,e⟩:=Vv (n rfl);exact⟨f,h8,.inr (.inr ⟨rfl,rfl,b,h8⟩)⟩
   · obtain rfl:j=0:=by rw[b] at a;simpa using a
     obtain⟨f,h8,l,e⟩:=Vv (n rfl);obtain rfl:f=c:=by rw[h8] at o;simpa using o
     exact⟨fun _ h=> absurd h (by omega),e,fun h _=> by have:=l h;simpa using this.symm,by omega,by omega⟩
 · refine⟨g,c,k,fun m d hm=> ?_⟩
   rcases hm with⟨rfl,rfl⟩ |⟨-,a,-⟩ |⟨-,a,-⟩
   · exact⟨fun h=> absurd h hc,fun _=> rfl,fun h=> absurd h hc,by omega,by omega⟩
   · exact absurd a hc
   · exact absurd a hc
theorem OG{wC:aL}{I L:Nat}{A:Option Addr}{G:List Tr}{At:Option Addr}{f:List Tr}{ty:Nat->An}(k n:Int)(ca ct:Nat)(q:f.length<=ct)(M:ct<=aV)(j:aL)(N:Nat->Prop)(u:Mb wC j N I L A G At f ty)(x:f.length=3)(r:Tr×Int)(h:Oe ty (kd f 0)=some r):aX prog 148 #[.agg #[.slice A G.length ca,.int .i64 k,.int .i64 n,.slice At f.length ct,.func (.func 105) #[] #[.pointer (some ⟨I,0,none⟩),.pointer (some ⟨L,0,none⟩)]]] j (q8 N j r):=by
 obtain⟨s,H,J,C⟩:=vF h;have H1:=hdq J;have Y:=hdq C;clear h J C;obtain⟨b,o,rfl,-,⟨O8,Q6,O7,P5,P4,T⟩,-⟩:=j19 u.hK x;have hp:=bF x;have P:=hdq x;clear x;go_enter func148,ntmps148;go_wp2_with fail;generalize E:aO (aO j _) _=w1;obtain⟨t,br,S⟩:=Ze E.symm u.hN;have O:=hdq (u.keep t (g:=j.heap.size+1) (aQ _) (O1 br));clear u;have F:=hdq (both S (T.up t (aQ _)));have X:=xr w1;have Q:=F.out _ X.off;clear S E T;refine(rC k n ca ct q M _ _ (O.out.ext X) 0 (by rw[P.out];decide) _ H1.out).mono ?_;rintro e Z ⟨rfl,e⟩;replace X:=X.trans e;replace Q:=F.out _ X.off;simp only;go_wp2_with fail
 go_loopw [5,6] (fun c i wr=> ∃(m:Nat) (d:Int),i= .int .i64 m/\c= .int .i64 d/\Hid (Ws H (pa (ty 1) (kd f 0)) (pa (ty 2) (kd f 0)) m d)/\Ext Z wr) (fun _ i _=> 4 -(intOf i).toNat)
 case atStart=> exact⟨1,H,rfl,rfl,hdq (.inl ⟨rfl,rfl⟩),xr _⟩
 case round=>
  obtain⟨m,d,rfl,rfl,a,e⟩:=hrel;have l:=e;replace X:=X.trans e;replace Q:=F.out _ X.off;obtain⟨v,z,y,f4,f5⟩:=Y.out m d a.out;by_cases hd:d=0
  · by_cases hm:m<=2
    · obtain⟨U,D,p⟩:=v hd hm
      have W:=hdq D;have Y9:=hdq p;have t1:decide ((m:Int)<=2)=true:=decide_eq_true (by omega);have hmw:IntKind.i64.wrap ((m:Int)+1)=(m:Int)+1:=IntWalk.i64_in _ ⟨by omega,by omega⟩;subst hd;have B:=hdq hm;clear v z y D p hm a;go_wp2_with fail;refine rgn (j.heap.size+1) (by kernel_rfl) X ?_;replace X:=X.drew;refine O2 [0,1,2,3,4,5,6] 2 (by kernel_rfl) X.off (fun _ _ _ _ _ h=> h) ?_
      iterate 7 (refine tk rfl (by rfl) (by intro w X;have Q:=F.out _ X;go_simp;(try with_reducible rfl)) ?_;try simp only[N2])
      replace l:=l.drew;replace Q:=F.out _ X.off;refine O0 7 (by kernel_rfl) rfl rfl (fun K hK=> ?_)
      go_simp
      go_at_call 141
      refine(JE k n ca ct q M _ _ (O.out.ext X) m (by have:=B.out;rw[P.out];omega) (kd f 0) _ Q.2.i U W.out).mono ?_;rintro e V ⟨rfl,e⟩;replace l:=l.trans e;replace X:=X.trans e;replace Q:=F.out _ X.off;refine hK.out _ _ X.off (fun _=> ?_);clear hK K;refine O2 [8] 0 (by kernel_rfl) X.off (fun _ _ _ _ _ h=> h) ?_;refine tk rfl (by rfl) (by intro w X;go_simp;(try with_reducible rfl)) ?_
      try simp only[N2]
      refine bP (by kernel_rfl) ?_ _;go_wp2_with fail
      go_roundw
      case rel=> exact⟨m+1,U,by go_num,rfl,Y9,l⟩
      case measure=> simp[intOf];omega
    · obtain rfl:=y hd (by omega)
      have t1:decide ((m:Int)<=2)=false:=decide_eq_false (by omega);subst hd;clear v z y hm a;go_wp2_with fail;refine(ip s.num _).mono ?_;rintro e V ⟨rfl,e⟩;replace X:=X.trans e;replace Q:=F.out _ X.off;have R:=cbn (X.blk br);go_wp2_with fail;exact R6 (by simp[aR,results148,go_sem,R]) (d5 _ _ 2 s.num) (rfl) (t.trans X) (aQ _) rfl
  · have HR:=hdq (z hd)
    have t2:(d !=0)=true:=by simp[hd]
    have t3:(d==0)=false:=by simp[hd]
    clear v z y hd a;by_cases hm:m<=2
    · have t1:decide ((m:Int)<=2)=true:=decide_eq_true (by omega)
      have R:=cbn (X.blk br);go_wp2_with fail;exact D9 (by simp[aR,results148,go_sem,R]) (HR.out) ((t.trans X).set3 (aQ _) _ _ _) rfl
    · have t1:decide ((m:Int)<=2)=false:=decide_eq_false (by omega)
      have R:=cbn (X.blk br);go_wp2_with fail;exact D9 (by simp[aR,results148,go_sem,R]) (HR.out) ((t.trans X).set3 (aQ _) _ _ _) rfl
theorem CC{wC:aL}{L M:Nat}{A:Option Addr}{G:List Tr}{At:Option Addr}{j:List Tr}{ty:Nat->An}(k n:Int)(ca ct:Nat)(y:j.length<=ct)(l8:ct<=aV)(f:aL)(N:Nat->Prop)(q:Mb wC f N L M A G At j ty)(hk:k=15\/k=16)(p:j.length=1)(ol:j0 D0 (.mk k n j)=true)(r:Tr×Int)(h:Mk ty k (kd j 0)=some r):aX prog 151 #[.agg #[.slice A G.length ca,m0 k,m0 n,.slice At j.length ct,.func (.func 105) #[] #[.pointer (some ⟨L,0,none⟩),.pointer (some ⟨M,0,none⟩)]]] f (q8 N f r):=by
 have D:=hdq (Yt ol p hk);obtain⟨s,c,x,I,P⟩:=a7 h;clear h ol hk;obtain⟨b,o,rfl,-,O8,Q6,O7,P5,P4,O⟩:=q16 q.hK p;have hp:=PJ p;have J2:=hdq p;clear p;go_enter func151,ntmps151;go_wp2_with fail;generalize m:aO (aO f _) _=w1;obtain⟨d,br,S⟩:=Ze m.symm q.hN;have C:=hdq (q.keep d (g:=f.heap.size+1) (aQ _) (O1 br));clear q;have F:=hdq (both S (O.up d (aQ _)));have X:=xr w1;have Q:=F.out _ X.off;clear S m O;refine(WB k n ca ct y l8 _ _ (C.out.ext X) 0 (by rw[J2.out];decide) 13 _ x.out).mono ?_;rintro e V ⟨u,rfl,hT,e⟩;replace X:=X.trans e;replace Q:=F.out _ X.off;obtain⟨ka,na,E⟩:=s;obtain⟨A1,c1,rfl,-,-,hK⟩:=InT.mk_iff.1 hT;clear hT;simp only at hK⊢;obtain⟨Y,t⟩ |rfl:=cz c
 · have R:=cbn (X.blk br)
   have B:=fun o=> cbn ((X.alloc o).blk br)
   go_wp2_with fail;exact D9 (by simp[aR,results151,go_sem,R,B]) (P.out Y.out) (((d.trans X).alloc _).set3 (aQ _) _ _ _) rfl
 obtain⟨-,a,hv⟩:=Mi x.out;have hr:=I.out rfl;simp only[Tr.kids] at a hv hr hK;have a:E.length=2:=by have:U0 13=2:=rfl;omega
 have ae:=hdq (show j0 D0 (kd E 1)=true from Vc hv (i:=1) (by simp only[Tr.kids];omega));clear x I P hv;obtain⟨b2,o2,rfl,z,⟨jm,jw,jq,jl,jk,v⟩,W,Z,f13,f14,f15,J⟩:=q17 hK a;rw[a];clear hK a;by_cases hk:k=15
 · rw[if_pos hk] at hr
   have t3:(k==15)=true:=by simp[hk]
   clear hk;have R:=cbn (X.blk br);have B:=fun o=> cbn ((X.alloc o).blk br)
   go_wp2_with fail;exact R6 (by simp[aR,results151,go_sem,R,B]) ((v.i).later ((xr _).alloc _)) ((bY hr).symm) ((d.trans X).alloc _) (aQ _) rfl
 rw[if_neg hk] at hr;have t3:(k==15)=false:=by simp[hk]
 clear hk;have HR:=hdq (bY hr);clear hr;go_wp2_with fail;generalize m:aO V _=T;obtain⟨H,e⟩:=nb m;replace F:=hdq (both (rb F.out (X.trans e)) (both (m7 H (X.ne br)) (both (v.fm z e) (J.fm z e))));replace X:=X.trans e;replace C:=hdq (C.out.ext X);replace br:=X.blk br;replace d:=d.trans X;replace X:=xr T;replace Q:=F.out _ X.off;clear m H e;clear v J z;refine rgn (f.heap.size+1) (by kernel_rfl) X ?_;replace X:=X.drew;refine O2 [0,1,2,3,4,5,6,7,8] 10 (by kernel_rfl) X.off (fun _ _ _ _ _ h=> h) ?_
 iterate 9 (refine tk rfl (by rfl) (by intro w X;have Q:=F.out _ X;go_simp;(try with_reducible rfl)) ?_;try simp only[N2])
 replace Q:=F.out _ X.off;refine O0 9 (by kernel_rfl) rfl rfl (fun K hK=> ?_)
 go_simp
 obtain⟨e,o6⟩:=mc 25 Q.1.2.i Q.1.1.1;replace X:=X.trans e;replace Q:=F.out _ X.off;refine hK.out _ _ X.off (fun _=> ?_);clear hK K;refine O0 10 (by kernel_rfl) rfl rfl (fun K hK=> ?_)
 go_simp
 go_at_call 56
 refine(rg 15 o6 rfl).mono ?_;rintro e w4 ⟨rfl,hx,e⟩;replace X:=X.trans e;replace Q:=F.out _ X.off;refine hK.out _ _ X.off (fun _=> ?_);clear hK K;refine O0 11 (by kernel_rfl) rfl rfl (fun K hK=> ?_)
 go_simp
 go_at_call 119
 refine(Vs ae.out D.out Q.1.1.1 Q.2.2.2.l hx.lies').mono ?_;rintro e w5 ⟨_,_,_,_,_,rfl,hy,e⟩;replace X:=X.trans e;replace Q:=F.out _ X.off;refine hK.out _ _ X.off (fun _=> ?_);clear hK K;refine O2 [12,13] 5 (by kernel_rfl) X.off (fun _ _ _ _ _ h=> h) ?_
 iterate 2 (refine tk rfl (by rfl) (by intro w X;go_simp;(try with_reducible rfl)) ?_;try simp only[N2])
 refine O0 14 (by kernel_rfl) rfl rfl (fun K hK=> ?_)
 go_simp
 go_at_call 103
 refine(Un hy).mono ?_;rintro e w6 ⟨_,_,_,_,_,rfl,U,e⟩;replace X:=X.trans e;replace Q:=F.out _ X.off;refine hK.out _ _ X.off (fun _=> ?_);clear hK K;refine O2 [15,16] 2 (by kernel_rfl) X.off (fun _ _ _ _ _ h=> h) ?_
 iterate 2 (refine tk rfl (by rfl) (by intro w X;go_simp;(try with_reducible rfl)) ?_;try simp only[N2])
 have R:=cbn (X.blk br);refine O0 17 (by kernel_rfl) rfl rfl (fun K hK=> ?_)
 go_simp
 refine hK.out _ _ (X.off.set3 _ _ _) (fun _=> ?_);clear hK K;refine O2 [18] 0 (by kernel_rfl) (X.off.set3 _ _ _) (fun _ _ _ _ _ h=> h) ?_;refine tk rfl (by rfl) (by intro w X;go_simp;(try with_reducible rfl)) ?_
 try simp only[N2]
 refine bP (by kernel_rfl) ?_ _;go_wp2_with fail;exact R6 (by simp[aR,results151,go_sem,R]) (U) (dd HR.out.symm) (d.trans X) (aQ _) rfl
end Go.Proofs.YtckhbnmfnpolgaaGreat
namespace Go.Proofs.YtckhbnmfnpolgaaGreat
open Go.RowKit
open M (Hd HR Cv Ty Lim Wb y6 U4)
theorem ik{b:Prop}{f a:Nat}{G:List Tr}{k:Int}{ks:List Tr}{i:Nat}(c:E4 k i=0->Rl b (Q0 f G (kd ks i)) (S0 a G (kd ks i)))(e:E4 k i≠0->G.length < 20->Rl b (Q0 f (G++ [kd ks 0]) (kd ks i)) (S0 a (G++ [kd ks 0]) (kd ks i))):Rl b (ia (Q0 f) G k ks i) (da (S0 a) G k ks i):=by
 unfold ia da;by_cases h:E4 k i=0
 · rw[if_pos h,if_pos h];exact c h
 · rw[if_neg h,if_neg h]
   by_cases hl:20<=G.length
   · rw[if_pos hl]
     cases f with
     |zero=> exact Rl.no _
     |succ f=>
      obtain⟨j,g,d⟩:=kd ks i;unfold Q0;rw[if_pos (.inr (by simp;omega))];exact Rl.rfl' _
   · rw[if_neg hl]
     exact e h (by omega)
theorem EB{b:Prop}{f d:Nat}{G:List Tr}{A B:Tr}(hA: ∀g,d=g+1->Rl b (Q0 f G A) (S0 g G A))(hB: ∀g,d=g+1->G.length < 20->(∃s,X0 (S0 g G A) 2=some (s,0))->Rl b (Q0 f (G++ [A]) B) (S0 g (G++ [A]) B))
 (hn:j0 D0 (.mk 3 0 [A,B])=true\/b\/vf (X0 (Q0 f (G++ [A]) B) 2)) (c:X0 (Q0 f G A) 2=none\/ ∃s,X0 (Q0 f G A) 2=some (s,0)):
 Rl b (thn (X0 (Q0 f G A) 2) fun _=> thn (X0 (Q0 f (G++ [A]) B) 2) fun _=> some (mkV (.mk 3 0 [A,B]))) (thn (some (mkV (.mk 3 0 [A,B]))) fun out=> thn (S0 d G out) fun _=> some (out,0)):=by
 by_cases hv:j0 D0 (.mk 3 0 [A,B])=true
 · rw[oj _ hv]
   cases d with
   |zero=> exact Rl.no' _
   |succ g=>
    rw[show S0 (g+1) G (.mk 3 0 [A,B])=thn (X0 (S0 g G A) 2) fun a=> thn (X0 (da (S0 g) G 3 [A,B] 1) 2) fun b=> some (m6 (max a.num b.num),0) from rfl,Yd];refine((hA g rfl).frm 2).seq fun s p j=> ?_
    rw[Yd];have:Rl b (Q0 f (G++ [A]) B) (da (S0 g) G 3 [A,B] 1):=ik (k:=3) (ks:= [A,B]) (i:=1) (fun h=> by cases h) fun _ hl=> hB g rfl hl ⟨s,j⟩
    refine(this.frm 2).seq fun m n o=> ?_
    show Rl b _ (some (.mk 3 0 [A,B],0))
    unfold mkV;rw[if_pos hv];exact Rl.rfl' _
 · rw[NB _ hv]
   rcases c with c|⟨s,c⟩
   · rw[c];exact Rl.no _
   · rw[c]
     show Rl b (thn (X0 (Q0 f (G++ [A]) B) 2) fun _=> some (mkV _)) _
     have e:some (mkV (.mk 3 0 [A,B]))=some (j2,(2:Int)):=by
      unfold mkV;rw[if_neg hv]
     rw[e];refine Rl.open (((Tn f _ _).frm 2).seq fun _=> b6.at (.inr rfl)) ?_ ?_
     · rcases hn with hn|hn|hn
       · exact absurd hn hv
       · exact .inl hn
       · exact .inr (hn.seq fun _=> vf.at (by decide))
     · intro s e
       obtain⟨t,-,l⟩:=M8 e;simp at l
theorem Rl.okV{b:Prop}{x y:An}(h:Rl b x y){s:Tr}(e:y=some (s,0)):x=none\/x=some (s,0):=by
 cases x with
 |none=> exact .inl rfl
 |some p=>
  obtain⟨a,c⟩:=p;rcases h a c s 0 rfl e with⟨rfl,rfl⟩ |⟨-,-,-,-,h⟩
  · exact .inr rfl
  · cases h
theorem Rl.okS{b:Prop}{x y:An}(h:Rl b x y){s:Tr}(e:x=some (s,0)):y=none\/y=some (s,0):=by
 cases y with
 |none=> exact .inl rfl
 |some p=>
  obtain⟨a,c⟩:=p;rcases h s 0 a c e rfl with⟨rfl,rfl⟩ |⟨-,-,-,h,-⟩
  · exact .inr rfl
  · cases h
theorem OE{f:Nat}{G:List Tr}{t u:Tr}(h:Q0 f G t=some (u,0)):j0 D0 u=true:=by
 cases f with
 |zero=> cases h
 |succ f=>
  obtain⟨k,n,c⟩:=t;unfold Q0 at h;by_cases e:j0 D0 (.mk k n c)=false\/20 < G.length
  · rw[if_pos e] at h
    simp at h
  · rw[if_neg e] at h
    obtain⟨s,-,a⟩:=M8 h;obtain⟨b,rfl⟩:=Xf a;exact b
theorem Ly{f:Nat}{G:List Tr}{k:Int}{a:List Tr}{i:Nat}{u:Tr}(h:ia (Q0 f) G k a i=some (u,0)):j0 D0 u=true:=by
 unfold ia at h
 split at h
 · exact OE h
 · exact OE h
theorem q164: ∀(f a:Nat) (G:List Tr) (t:Tr),j0 D0 t=true->G.length<=20->Rl True (Q0 f G t) (S0 a G t)
 |0,a,G,t=> fun _ _=> Rl.no _
 |f+1,0,G,t=> fun _ _=> Rl.no' _
 |f+1,a+1,G,.mk k n b=> fun hv hG=> by
  have ih:=fun a=> q164 f a
  have e: ∀i,i < b.length->j0 D0 (kd b i)=true:=fun i hi=> Vc (t:= .mk k n b) hv hi
  have hl:E4 k 1=1->1 < b.length:=fun h=> by
   have p:=Zp hv;have:U0 k=2:=by
    unfold E4 at h
    split at h
    · rename_i d
      obtain⟨-,d⟩:=d;rcases d with rfl|rfl|rfl <;> rfl
    · cases h
   omega
  refine qe True hv hG (fun i hi c=> ik (fun _=> ih _ _ _ (e i hi) hG) fun h=> absurd c h) (fun c _=> ik (fun h=> by rw[c] at h;cases h) fun _ o=> ih _ _ _ (e 1 (hl c)) (by simp;omega)) ?_ (fun _ _=> .inl trivial) ?_ (fun _ _ _ _=> .inl trivial) (fun _ _ _ _ _=> .inl trivial)
  · intro h ⟨s,hs⟩ B hS hB
    subst h;have hA:=e 0 (by have:=hl rfl;omega);obtain⟨j,l⟩:=Wr rfl hB;have m:=Ly hS;refine EB (fun g _=> ih g G _ hA hG) (fun g _ hl _=> ih g _ B m (by simp;omega)) (.inr (.inl trivial)) ?_;have:Rl True (X0 (Q0 f G (kd b 0)) 2) (X0 (da (S0 a) G 4 b 0) 2):=(ih a G _ hA hG).frm 2;rcases this.okV hs with h|h
    · exact .inl h
    · exact .inr ⟨s,h⟩
  · intro h s hS hs
    exact ih a G s (Ly hS) hG
end Go.Proofs.YtckhbnmfnpolgaaGreat
namespace Go.Proofs.YtckhbnmfnpolgaaGreat
open Go Go.RowKit
attribute [local go_sem ↓] Go.wp_at_zero Go.wp_at_succ
theorem My{k n:Int}{a:List Tr}{x:Tr}(h:j0 D0 (.mk k n a)=true)(hx:x∈a):j0 D0 x=true:=ny h hx
theorem sv(p:Tr):(if(j0 D0 (shfT 1 p 0)&& j0 D0 (shfT 2 p 0))=true then mkV (.mk 3 0 [.mk 6 0 [],.mk 3 0 [.mk 5 0 [okT (shfT 1 p 0),.mk 1 0 []],.mk 5 0 [okT (shfT 2 p 0),.mk 8 0 [.mk 1 1 []]]]]) else(j2,2))=mkV (Sb p):=by
 by_cases h:(j0 D0 (shfT 1 p 0)&& j0 D0 (shfT 2 p 0))=true
 · rw[if_pos h]
   rw[aW] at h;unfold okT;rw[if_pos h.1,if_pos h.2]
   rfl
 · rw[if_neg h]
   unfold mkV;rw[if_neg];intro hv
   apply h
   rw[aW];have a:=My (x:= .mk 3 0 [.mk 5 0 [shfT 1 p 0,nf 0],.mk 5 0 [shfT 2 p 0,.mk 8 0 [nf 1]]]) hv (by simp);have b:=My (x:= .mk 5 0 [shfT 1 p 0,nf 0]) a (by simp);have c:=My (x:= .mk 5 0 [shfT 2 p 0,.mk 8 0 [nf 1]]) a (by simp);exact⟨My b (by simp),My c (by simp)⟩
theorem Mn{X:Tr×Int}{x:An}{Y:An}{r:Tr×Int}(h:thn (some X) (fun w=> W3 x w Y)=some r): ∃d,(X.2=0->pa x X.1=some d)/\(X.2≠0->d=X.2)/\(d=0->Y=some r)/\(d≠0->r=(j2,d)):=by
 obtain⟨s,c,i,b,f⟩:=Ud h;obtain rfl:X=(s,c):=by simpa using i
 by_cases hc:c=0
 · obtain⟨d,a,g,e⟩:=Vv (b hc)
   exact⟨d,fun _=> a,fun h=> absurd hc h,g,e⟩
 · exact⟨c,fun h=> absurd h hc,fun _=> rfl,fun h=> absurd h hc,fun _=> f hc⟩
theorem yD{X:Tr×Int}{x:An}{K:Tr->Tr}{Y:Tr->An}{r:Tr×Int}(h:thn (some X) (fun s=> W3 x (K s) (Y s))=some r): ∃d,(X.2=0->pa x (K X.1)=some d)/\(X.2≠0->d=X.2)/\(d=0->X.2=0/\Y X.1=some r)/\(d≠0->r=(j2,d)):=by
 obtain⟨s,c,i,b,f⟩:=Ud h;obtain rfl:X=(s,c):=by simpa using i
 by_cases hc:c=0
 · obtain⟨d,a,g,e⟩:=Vv (b hc)
   exact⟨d,fun _=> a,fun h=> absurd hc h,fun h=>⟨hc,g h⟩,e⟩
 · exact⟨c,fun h=> absurd h hc,fun _=> rfl,fun h=> absurd h hc,fun _=> f hc⟩
theorem uH(p:Tr)(f:aL)(N:Nat->Prop)(hN: ∀b,f.heap.size<=b->N b)(v:Value)(b8:InT f N p v)(hv:j0 D0 p=true):aX prog 182 #[v] f (q8 N f (mkV (Sb p))):=by
 have HV:=hdq hv;have HS:=hdq (fun W (hW:Ext f W)=> b8.lies'.ext hW);have HR:=hdq (sv p);obtain⟨k,n,r⟩:=p;obtain⟨At,ct,rfl,-⟩:=InT.mk_iff.1 b8;clear b8 hv;go_enter func182,ntmps182;go_wp2_with fail;generalize t:aO (aO f _) _=w1;obtain⟨x,br,S⟩:=sn2 t.symm hN;have F:=hdq (S);have X:=xr w1;have Q:=F.out _ X.off;clear S hN t;refine(Yy _ 1 0 _ _ (HS.out _ (x.trans X)) HV.out (by omega) (by omega) (by omega) (by omega)).mono ?_;rintro e w2 ⟨u,rfl,M,e⟩;have hT:=M.at' Q.1;clear M;replace X:=X.trans e;replace Q:=F.out _ X.off;obtain⟨ta1,ta2,ta3,ta4,ta5,rfl⟩:=hT.three;go_wp2_with fail;generalize t:aO w2 _=w3;obtain⟨G,e⟩:=nb t;replace F:=hdq (both (rb F.out (X.trans e)) (both (m7 G (X.ne br)) (hT.up e)));replace X:=X.trans e;replace br:=X.blk br;replace x:=x.trans X;replace X:=xr w3;replace Q:=F.out _ X.off;clear t G e;clear hT;refine(Yy _ 2 0 _ _ (HS.out _ (x.trans X)) HV.out (by omega) (by omega) (by omega) (by omega)).mono ?_;rintro e w4 ⟨u,rfl,M,e⟩;have hT:=M.at' Q.1.1;clear M;replace X:=X.trans e;replace Q:=F.out _ X.off;obtain⟨tb1,Z,tb3,tb4,tb5,rfl⟩:=hT.three;go_wp2_with fail;generalize t:aO w4 _=w5;obtain⟨G,e⟩:=nb t;replace F:=hdq (both (rb F.out (X.trans e)) (both (m7 G (X.ne br)) (hT.up e)));replace X:=X.trans e;replace br:=X.blk br;replace x:=x.trans X;replace X:=xr w5;replace Q:=F.out _ X.off;clear t G e;clear hT;have HQ:=hdq (fun w N v (h:InT w N (.mk 3 0 [.mk 6 0 [],.mk 3 0 [.mk 5 0 [okT (shfT 1 (.mk k n r) 0),.mk 1 0 []],.mk 5 0 [okT (shfT 2 (.mk k n r) 0),.mk 8 0 [.mk 1 1 []]]]]) v)=>(show aX prog 103 #[v,.bool (j0 D0 (shfT 1 (.mk k n r) 0)&& j0 D0 (shfT 2 (.mk k n r) 0))] w (q8 N w (mkV (Sb (.mk k n r)))) from HR.out▸Am _ _ w N v h));clear HR HS HV;generalize mkV (Sb (.mk k n r))=q at*;generalize okT (shfT 1 (.mk k n r) 0)=m at*;generalize okT (shfT 2 (.mk k n r) 0)=l at*;generalize j0 D0 (shfT 1 (.mk k n r) 0)=o at*;generalize j0 D0 (shfT 2 (.mk k n r) 0)=D at*;refine rgn (f.heap.size+1) (by kernel_rfl) X ?_;replace X:=X.drew;refine O2 [1,5,15] 21 (by kernel_rfl) X.off (fun _ _ _ _ _ h=> h) ?_
 iterate 3 (refine tk rfl (by rfl) (by intro w X;have Q:=F.out _ X;go_simp;(try with_reducible rfl)) ?_;try simp only[N2])
 replace Q:=F.out _ X.off;refine Vi 22 40 #[true,true,true,true,true,true,true,true,true,true,true,true,true,true,true,true,true,true,true,true,true,true,false,false] 2 [Sp.tree (fun b=> N b/\b≠f.heap.size+1) (.mk 6 0 []),.any,Sp.tree (fun b=> N b/\b≠f.heap.size+1) (.mk 1 0 []),Sp.row (fun b=> N b/\b≠f.heap.size+1) [m,(.mk 1 0 [])],Sp.tree (fun b=> N b/\b≠f.heap.size+1) (.mk 5 0 [m,(.mk 1 0 [])]),.any,Sp.tree (fun b=> N b/\b≠f.heap.size+1) (.mk 1 1 []),Sp.row (fun b=> N b/\b≠f.heap.size+1) [(.mk 1 1 [])],Sp.tree (fun b=> N b/\b≠f.heap.size+1) (.mk 8 0 [(.mk 1 1 [])]),Sp.row (fun b=> N b/\b≠f.heap.size+1) [l,(.mk 8 0 [(.mk 1 1 [])])],Sp.tree (fun b=> N b/\b≠f.heap.size+1) (.mk 5 0 [l,(.mk 8 0 [(.mk 1 1 [])])]),Sp.row (fun b=> N b/\b≠f.heap.size+1) [(.mk 5 0 [m,(.mk 1 0 [])]),(.mk 5 0 [l,(.mk 8 0 [(.mk 1 1 [])])])],Sp.tree (fun b=> N b/\b≠f.heap.size+1) (.mk 3 0 [(.mk 5 0 [m,(.mk 1 0 [])]),(.mk 5 0 [l,(.mk 8 0 [(.mk 1 1 [])])])]),Sp.row (fun b=> N b/\b≠f.heap.size+1) [(.mk 6 0 []),(.mk 3 0 [(.mk 5 0 [m,(.mk 1 0 [])]),(.mk 5 0 [l,(.mk 8 0 [(.mk 1 1 [])])])])],Sp.tree (fun b=> N b/\b≠f.heap.size+1) (.mk 3 0 [(.mk 6 0 []),(.mk 3 0 [(.mk 5 0 [m,(.mk 1 0 [])]),(.mk 5 0 [l,(.mk 8 0 [(.mk 1 1 [])])])])]),.any,Sp.val (.bool o),Sp.val ((if o=true then .bool D else undef)),Sp.val (.bool (o && D)),Sp.two (fun b=> N b/\b≠f.heap.size+1) q.1 (m0 q.2),Sp.tree (fun b=> N b/\b≠f.heap.size+1) q.1,Sp.val (m0 q.2)] [0,2,3,4,6,7,8,9,10,11,12,13,14,16,17,18,19,20,21] (fun w h=>(X.trans h).off) (by kernel_rfl) rfl ?st1 ?fi1
 case st1=>
  repeat' first|exact trivial|refine And.intro ⟨_,rfl, ?_⟩ ?_
  all_goals intro a w z hE i g
  · (refine Ord.step_of rfl rfl ?_;intro K hK;go_simp;go_at_call 56;refine(de w 6 none 0 0).mono ?_;rintro e s ⟨rfl,d⟩;exact hK _ _ ⟨_,z,rfl,n9 hE d,d5 _ _ _ _⟩)
  · (refine Ord.step_of rfl rfl ?_;intro K hK;go_simp;go_at_call 58;refine(fC 0 w).mono ?_;rintro e s ⟨rfl,d⟩;exact hK _ _ ⟨_,z,rfl,n9 hE d,d5 _ _ _ _⟩)
  · (refine Ord.step_of rfl rfl ?_;intro K hK;have j:=D3 (show a.eval (.tmp 19)= M0 ta1 ta2 ta3 ta4 ta5 from i 19 (by kernel_rfl));have T:InT w (Mz _ z) (.mk 1 0 []) (a.eval (.tmp 20)):=g 2 20 (by kernel_rfl);obtain⟨_,_,_,_,_,f2⟩:=T.three;rw[f2] at T;replace f2:=D3 f2;go_simp;obtain⟨d,h⟩:=K6 25 (Q.1.2.2.oldG' hE) T (md Q.1.1.1 hE);exact hK _ _ ⟨_,z,rfl,n9 hE d,_,2,rfl,aN _,by decide,h⟩)
  · (refine Ord.step_of rfl rfl ?_;intro K hK;obtain⟨A3,c3,f3,Kb,Le,Gb⟩: ∃A c,a.eval (.tmp 21)= .slice A 2 c/\2<=c/\c<=aV/\InK w (Mz _ z) A [m,(.mk 1 0 [])]:=g 3 21 (by kernel_rfl);replace f3:=D3 f3;go_simp;go_at_call 56;refine(de w 5 A3 2 c3).mono ?_;rintro e s ⟨rfl,d⟩;exact hK _ _ ⟨_,z,rfl,n9 hE d,InT.mk_iff.2 ⟨_,_,rfl,Kb,Le,Gb.later d⟩⟩)
  · (refine Ord.step_of rfl rfl ?_;intro K hK;go_simp;go_at_call 58;refine(fC 1 w).mono ?_;rintro e s ⟨rfl,d⟩;exact hK _ _ ⟨_,z,rfl,n9 hE d,d5 _ _ _ _⟩)
  · (refine Ord.step_of rfl rfl ?_;intro K hK;have h6:InT w (Mz _ z) (.mk 1 1 []) (a.eval (.tmp 24)):=g 6 24 (by kernel_rfl);obtain⟨_,_,_,_,_,f6⟩:=h6.three;rw[f6] at h6;replace f6:=D3 f6;go_simp;obtain⟨d,h⟩:=mc 25 h6 (md Q.1.1.1 hE);exact hK _ _ ⟨_,z,rfl,n9 hE d,_,1,rfl,aN _,by decide,h⟩)
  · (refine Ord.step_of rfl rfl ?_;intro K hK;obtain⟨A7,c7,V,Gi,Kp,Hj⟩: ∃A c,a.eval (.tmp 25)= .slice A 1 c/\1<=c/\c<=aV/\InK w (Mz _ z) A [(.mk 1 1 [])]:=g 7 25 (by kernel_rfl);replace V:=D3 V;go_simp;go_at_call 56;refine(de w 8 A7 1 c7).mono ?_;rintro e s ⟨rfl,d⟩;exact hK _ _ ⟨_,z,rfl,n9 hE d,InT.mk_iff.2 ⟨_,_,rfl,Gi,Kp,Hj.later d⟩⟩)
  · (refine Ord.step_of rfl rfl ?_;intro K hK;have f23:=D3 (show a.eval (.tmp 23)= M0 tb1 Z tb3 tb4 tb5 from i 23 (by kernel_rfl));have h8:InT w (Mz _ z) (.mk 8 0 [(.mk 1 1 [])]) (a.eval (.tmp 26)):=g 8 26 (by kernel_rfl);obtain⟨_,_,_,_,_,f8⟩:=h8.three;rw[f8] at h8;replace f8:=D3 f8;go_simp;obtain⟨d,h⟩:=K6 25 (Q.2.2.oldG' hE) h8 (md Q.1.1.1 hE);exact hK _ _ ⟨_,z,rfl,n9 hE d,_,2,rfl,aN _,by decide,h⟩)
  · (refine Ord.step_of rfl rfl ?_;intro K hK;obtain⟨A9,c9,f9,Hy,Ko,Kw⟩: ∃A c,a.eval (.tmp 27)= .slice A 2 c/\2<=c/\c<=aV/\InK w (Mz _ z) A [l,(.mk 8 0 [(.mk 1 1 [])])]:=g 9 27 (by kernel_rfl);replace f9:=D3 f9;go_simp;go_at_call 56;refine(de w 5 A9 2 c9).mono ?_;rintro e s ⟨rfl,d⟩;exact hK _ _ ⟨_,z,rfl,n9 hE d,InT.mk_iff.2 ⟨_,_,rfl,Hy,Ko,Kw.later d⟩⟩)
  · (refine Ord.step_of rfl rfl ?_;intro K hK;have h4:InT w (Mz _ z) (.mk 5 0 [m,(.mk 1 0 [])]) (a.eval (.tmp 22)):=g 4 22 (by kernel_rfl);obtain⟨_,_,_,_,_,Y⟩:=h4.three;rw[Y] at h4;replace Y:=D3 Y;have E:InT w (Mz _ z) (.mk 5 0 [l,(.mk 8 0 [(.mk 1 1 [])])]) (a.eval (.tmp 28)):=g 10 28 (by kernel_rfl);obtain⟨_,_,_,_,_,y⟩:=E.three;rw[y] at E;replace y:=D3 y;go_simp;obtain⟨d,h⟩:=K6 25 h4 E (md Q.1.1.1 hE);exact hK _ _ ⟨_,z,rfl,n9 hE d,_,2,rfl,aN _,by decide,h⟩)
  · (refine Ord.step_of rfl rfl ?_;intro K hK;obtain⟨U,c11,H,Dc,Dh,Cc⟩: ∃A c,a.eval (.tmp 29)= .slice A 2 c/\2<=c/\c<=aV/\InK w (Mz _ z) A [(.mk 5 0 [m,(.mk 1 0 [])]),(.mk 5 0 [l,(.mk 8 0 [(.mk 1 1 [])])])]:=g 11 29 (by kernel_rfl);replace H:=D3 H;go_simp;go_at_call 56;refine(de w 3 U 2 c11).mono ?_;rintro e s ⟨rfl,d⟩;exact hK _ _ ⟨_,z,rfl,n9 hE d,InT.mk_iff.2 ⟨_,_,rfl,Dc,Dh,Cc.later d⟩⟩)
  · (refine Ord.step_of rfl rfl ?_;intro K hK;have h0:InT w (Mz _ z) (.mk 6 0 []) (a.eval (.tmp 18)):=g 0 18 (by kernel_rfl);obtain⟨_,_,_,_,_,f0⟩:=h0.three;rw[f0] at h0;replace f0:=D3 f0;have J9:InT w (Mz _ z) (.mk 3 0 [(.mk 5 0 [m,(.mk 1 0 [])]),(.mk 5 0 [l,(.mk 8 0 [(.mk 1 1 [])])])]) (a.eval (.tmp 30)):=g 12 30 (by kernel_rfl);obtain⟨_,_,_,_,_,B⟩:=J9.three;rw[B] at J9;replace B:=D3 B;go_simp;obtain⟨d,h⟩:=K6 25 h0 J9 (md Q.1.1.1 hE);exact hK _ _ ⟨_,z,rfl,n9 hE d,_,2,rfl,aN _,by decide,h⟩)
  · (refine Ord.step_of rfl rfl ?_;intro K hK;obtain⟨A13,c13,P,Dn,Cb,Ck⟩: ∃A c,a.eval (.tmp 31)= .slice A 2 c/\2<=c/\c<=aV/\InK w (Mz _ z) A [(.mk 6 0 []),(.mk 3 0 [(.mk 5 0 [m,(.mk 1 0 [])]),(.mk 5 0 [l,(.mk 8 0 [(.mk 1 1 [])])])])]:=g 13 31 (by kernel_rfl);replace P:=D3 P;go_simp;go_at_call 56;refine(de w 3 A13 2 c13).mono ?_;rintro e s ⟨rfl,d⟩;exact hK _ _ ⟨_,z,rfl,n9 hE d,InT.mk_iff.2 ⟨_,_,rfl,Dn,Cb,Ck.later d⟩⟩)
  · (refine Ord.step_of rfl rfl ?_;intro K hK;have f33:=D3 (show a.eval (.tmp 33)= .bool o from i 33 (by kernel_rfl));go_simp;exact hK _ _ ⟨_,z,rfl,hE.id,rfl⟩)
  · (have f34:a.eval (.tmp 34)= .bool o:=g 16 34 (by kernel_rfl);have V:=D3 (show a.eval (.tmp 7)= .bool D from i 7 (by kernel_rfl));refine dp rfl rfl rfl f34 (fun O K hK=> ?_) (fun O=>⟨undef,z,rfl,hE.id,(show undef=(if o=true then Value.bool D else undef) from(if_neg O).symm)⟩);go_simp;exact hK _ _ ⟨_,z,rfl,hE.id,(show _=(if o=true then Value.bool D else undef) from(if_pos O).symm)⟩)
  · (refine Ord.step_of rfl rfl ?_;intro K hK;have f16:=Wj (g 16 34 (by kernel_rfl)) rfl;have L:=Wj (g 17 35 (by kernel_rfl)) rfl;obtain hz|hz:o=true\/o=false:=(by cases o <;> simp);all_goals(rw[hz] at f16 L;first|(rw[if_pos rfl] at L;go_simp;exact hK _ _ ⟨_,z,rfl,hE.id,(show _=Value.bool (o && D) from by rw[hz];rfl)⟩) |(go_simp;exact hK _ _ ⟨_,z,rfl,hE.id,(show _=Value.bool (o && D) from by rw[hz];rfl)⟩)))
  · (refine Ord.step_of rfl rfl ?_;intro K hK;have mm:InT w (Mz _ z) (.mk 3 0 [(.mk 6 0 []),(.mk 3 0 [(.mk 5 0 [m,(.mk 1 0 [])]),(.mk 5 0 [l,(.mk 8 0 [(.mk 1 1 [])])])])]) (a.eval (.tmp 32)):=g 14 32 (by kernel_rfl);obtain⟨_,_,_,_,_,C⟩:=mm.three;rw[C] at mm;replace C:=D3 C;have f18:=Wj (g 18 36 (by kernel_rfl)) rfl;go_simp;go_at_call 103;refine(HQ.out w _ _ mm).mono ?_;rintro e s ⟨u,rfl,hu,d⟩;exact hK _ _ ⟨_,z,rfl,n9 hE d,u,rfl,hu⟩)
  · (refine Ord.step_of rfl rfl ?_;intro K hK;obtain⟨u19,j,J⟩: ∃u,a.eval (.tmp 37)= .tuple #[u,m0 q.2]/\InT w (Mz _ z) q.1 u:=g 19 37 (by kernel_rfl);replace j:=D3 j;go_simp;exact hK _ _ ⟨_,z,rfl,hE.id,J⟩)
  · (refine Ord.step_of rfl rfl ?_;intro K hK;obtain⟨u19,j,J⟩: ∃u,a.eval (.tmp 37)= .tuple #[u,m0 q.2]/\InT w (Mz _ z) q.1 u:=g 19 37 (by kernel_rfl);replace j:=D3 j;go_simp;exact hK _ _ ⟨_,z,rfl,hE.id,rfl⟩)
 case fi1=>
  intro v s z hE hG;have ht:InT s (Mz _ z) q.1 (v 20):=hG 20 (by decide) (by kernel_rfl);obtain⟨a1,a2,a3,a4,a5,C4⟩:=ht.three;rw[C4] at ht;have I:v 21= m0 q.2:=hG 21 (by decide) (by kernel_rfl);simp only[List.foldl,Ord.dstOf,dZ,dQ,dL,Option.bind_some,Act.put,aU,bN,bM];rw[C4,I];replace ht:=InT.mono (fun b (O:Mz _ z b)=> O.1) (fun _ _=> rfl) ht;replace X:=X.trans hE.1;replace Q:=F.out _ X.off;clear hG hE C4 I;have R:=cbn (X.blk br);refine O0 22 (by kernel_rfl) rfl rfl (fun K hK=> ?_)
  go_simp
  refine hK.out _ _ (X.off.set3 _ _ _) (fun _=> ?_);clear hK K;refine O2 [23] 0 (by kernel_rfl) (X.off.set3 _ _ _) (fun _ _ _ _ _ h=> h) ?_;refine tk rfl (by rfl) (by intro w X;go_simp;(try with_reducible rfl)) ?_
  try simp only[N2]
  refine bP (by kernel_rfl) ?_ _;go_wp2_with fail;exact R6 (by simp[aR,results182,go_sem,R]) (ht) (dd rfl) (x.trans X) (aQ _) rfl
theorem YF{wC:aL}{p1 p2:Nat}{A:Option Addr}{G:List Tr}{At:Option Addr}{d:List Tr}{ty:Nat->An}(k n:Int)(ca ct:Nat)(hlt:d.length<=ct)(l8:ct<=aV)(l:aL)(N:Nat->Prop)(T:Mb wC l N p1 p2 A G At d ty)(M:Tr->An)(hI:ue wC A ca G M)(U:d.length=2)(r:Tr×Int)(h:Oo M ty (kd d 0)=some r):aX prog 143 #[.agg #[.slice A G.length ca,m0 k,m0 n,.slice At d.length ct,.func (.func 105) #[] #[.pointer (some ⟨p1,0,none⟩),.pointer (some ⟨p2,0,none⟩)]]] l (q8 N l r):=by
 have ir:=hdq hI;obtain⟨sA,c,H1,B,D⟩:=a7 h;clear h hI;obtain⟨b,o,rfl,-,⟨O8,Q6,O7,P5,P4,K0⟩,ah,bm,aj,dc,df,P⟩:=q17 T.hK U;have hp:=KJ U;have J2:=hdq U;clear U;go_enter func143,ntmps143;go_wp2_with fail;generalize H:aO (aO l _) _=w1;obtain⟨m,br,S⟩:=Ze H.symm T.hN;have j:=hdq (T.keep m (g:=l.heap.size+1) (aQ _) (O1 br));clear T;have F:=hdq (both S (both (K0.up m (aQ _)) (P.up m (aQ _))));have X:=xr w1;have Q:=F.out _ X.off;clear S H K0 P;refine(rC k n ca ct hlt l8 _ _ (j.out.ext X) 0 (by rw[J2.out];decide) _ H1.out).mono ?_;rintro e w2 ⟨rfl,e⟩;replace X:=X.trans e;replace Q:=F.out _ X.off;simp only;obtain⟨x,t⟩ |rfl:=cz c
 · have R:=cbn (X.blk br)
   go_wp2_with fail;exact D9 (by simp[aR,results143,go_sem,R]) (D.out x.out) ((m.trans X).set3 (aQ _) _ _ _) rfl
 obtain⟨f,c,G1,G2,G3⟩:=a7 (B.out rfl);clear H1 B D;go_wp2_with fail;refine((j.out.ext X).hT _ _ (j.out.ext X).hx (j.out.ext X).hN (j.out.ext X).hG (j.out.ext X).hK 1 (by rw[J2.out];decide) _ G1.out).mono ?_;rintro e w3 ⟨u,rfl,hT,e⟩;replace X:=X.trans e;replace Q:=F.out _ X.off;obtain⟨u1,u2,u3,u4,u5,rfl⟩:=hT.three;simp only;obtain⟨x,t⟩ |rfl:=cz c
 · have R:=cbn (X.blk br)
   have L:=fun o=> cbn ((X.alloc o).blk br)
   go_wp2_with fail;exact D9 (by simp[aR,results143,go_sem,R,L]) (G3.out x.out) (((m.trans X).alloc _).set3 (aQ _) _ _ _) rfl
 obtain⟨B,D⟩:=rH (G2.out rfl);clear G1 G2 G3;obtain⟨Y,y⟩: ∃Y,Y=Tr.mk 3 0 [kd d 0,f]:=⟨_,rfl⟩;rw[<-y] at B D;have HY:=hdq y;clear y;go_wp2_with fail;generalize H:aO w3 _=w4;obtain⟨E,e⟩:=nb H;replace F:=hdq (both (rb F.out (X.trans e)) (both (m7 E (X.ne br)) (hT.up e)));replace X:=X.trans e;replace j:=hdq (j.out.ext X);replace br:=X.blk br;replace m:=m.trans X;replace X:=xr w4;replace Q:=F.out _ X.off;clear H E e;clear hT;refine rgn (l.heap.size+1) (by kernel_rfl) X ?_;replace X:=X.drew;refine O2 [0,1,2,3,4,5] 9 (by kernel_rfl) X.off (fun _ _ _ _ _ h=> h) ?_
 iterate 6 (refine tk rfl (by rfl) (by intro w X;have Q:=F.out _ X;go_simp;(try with_reducible rfl)) ?_;try simp only[N2])
 replace Q:=F.out _ X.off;refine cl 13 58 11 #[true,true,true,true,true,true,true,true,true,true,true,true,true,false,false] 2 [.any,.any,.any,.any,.any,.any,Sp.row (fun b=> N b/\b≠l.heap.size+1) [kd d 0,f],Sp.tree (fun b=> N b/\b≠l.heap.size+1) (.mk 3 0 [kd d 0,f]),Sp.two (fun b=> N b/\b≠l.heap.size+1) (mkV (.mk 3 0 [kd d 0,f])).1 (m0 (mkV (.mk 3 0 [kd d 0,f])).2),Sp.two (fun b=> N b/\b≠l.heap.size+1) (mkV (.mk 3 0 [kd d 0,f])).1 (m0 (mkV (.mk 3 0 [kd d 0,f])).2),Sp.tree (fun b=> N b/\b≠l.heap.size+1) (mkV (.mk 3 0 [kd d 0,f])).1,Sp.val (m0 (mkV (.mk 3 0 [kd d 0,f])).2),Sp.box w4.drew] [6,7,8,9,10,11,12] (fun w h=>(X.trans h).off) (by kernel_rfl) rfl rfl (fun _ _ _ _ h=> h) ?hx2 ?st2 ?fi2
 case hx2=>(intro a w z hE p s;obtain⟨u9,q,W⟩: ∃u,a.eval (.tmp 30)= .tuple #[u,m0 (mkV (.mk 3 0 [kd d 0,f])).2]/\InT w (Mz _ z) (mkV (.mk 3 0 [kd d 0,f])).1 u:=s 9 30 (by kernel_rfl);replace q:=D3 q;exact⟨m0 (mkV (.mk 3 0 [kd d 0,f])).2,Or.inl ⟨by rfl,fun w'' _=> by go_simp⟩,rfl⟩)
 case st2=>
  repeat' first|exact trivial|refine And.intro ⟨_,rfl, ?_⟩ ?_
  all_goals(intro a w z hE p s;refine Ord.step_of rfl rfl ?_;intro K hK)
  · (have f35:=D3 (show a.eval (.tmp 35)= M0 O8 Q6 O7 P5 P4 from p 35 (by kernel_rfl));have f36:=D3 (show a.eval (.tmp 36)= M0 u1 u2 u3 u4 u5 from p 36 (by kernel_rfl));go_simp;obtain⟨C,h⟩:=K6 25 (Q.1.2.1.i.oldG' hE) (Q.2.2.oldG' hE) (md Q.1.1.1 hE);exact hK _ _ ⟨_,z,rfl,n9 hE C,_,2,rfl,aN _,by decide,h⟩)
  · (obtain⟨A6,c6,f6,mn,rj,nl⟩: ∃A c,a.eval (.tmp 37)= .slice A 2 c/\2<=c/\c<=aV/\InK w (Mz _ z) A [kd d 0,f]:=s 6 37 (by kernel_rfl);replace f6:=D3 f6;go_simp;go_at_call 56;refine(de w 3 A6 2 c6).mono ?_;rintro e O ⟨rfl,C⟩;exact hK _ _ ⟨_,z,rfl,n9 hE C,InT.mk_iff.2 ⟨_,_,rfl,mn,rj,nl.later C⟩⟩)
  · (have h7:InT w (Mz _ z) (.mk 3 0 [kd d 0,f]) (a.eval (.tmp 38)):=s 7 38 (by kernel_rfl);obtain⟨_,_,_,_,_,V⟩:=h7.three;rw[V] at h7;replace V:=D3 V;go_simp;go_at_call 103;refine(Ng h7).mono ?_;rintro e O ⟨_,_,_,_,_,rfl,hu,C⟩;exact hK _ _ ⟨_,z,rfl,n9 hE C,_,rfl,hu⟩)
  · (obtain⟨u8,f8,h8⟩: ∃u,a.eval (.tmp 39)= .tuple #[u,m0 (mkV (.mk 3 0 [kd d 0,f])).2]/\InT w (Mz _ z) (mkV (.mk 3 0 [kd d 0,f])).1 u:=s 8 39 (by kernel_rfl);replace f8:=D3 f8;go_simp;exact hK _ _ ⟨_,z,rfl,hE.id,_,rfl,h8⟩)
  · (obtain⟨u9,q,W⟩: ∃u,a.eval (.tmp 30)= .tuple #[u,m0 (mkV (.mk 3 0 [kd d 0,f])).2]/\InT w (Mz _ z) (mkV (.mk 3 0 [kd d 0,f])).1 u:=s 9 30 (by kernel_rfl);replace q:=D3 q;go_simp;exact hK _ _ ⟨_,z,rfl,hE.id,W⟩)
  · (obtain⟨u9,q,W⟩: ∃u,a.eval (.tmp 30)= .tuple #[u,m0 (mkV (.mk 3 0 [kd d 0,f])).2]/\InT w (Mz _ z) (mkV (.mk 3 0 [kd d 0,f])).1 u:=s 9 30 (by kernel_rfl);replace q:=D3 q;go_simp;exact hK _ _ ⟨_,z,rfl,hE.id,rfl⟩)
  · (go_simp;exact hK _ _ ⟨_,_,rfl,EG.box hE,_,rfl,List.mem_cons_self ..,(show _<=w.heap.size from hE.1.size),heap_alloc_new _ _⟩)
 case fi2=>
  intro v O z hE hG;have ht:InT O (Mz _ z) (mkV (.mk 3 0 [kd d 0,f])).1 (v 10):=hG 10 (by decide) (by kernel_rfl);obtain⟨a1,a2,a3,a4,a5,C4⟩:=ht.three;rw[C4] at ht;obtain⟨gb,J,gz,Z,bx⟩: ∃g,v 12= .pointer (some ⟨g,0,none⟩)/\g∈z/\w4.drew.heap.size<=g/\O.heap[g]? =_:=hG 12 (by decide) (by kernel_rfl);have hv3:v 11= m0 (mkV (.mk 3 0 [kd d 0,f])).2:=hG 11 (by decide) (by kernel_rfl);simp only[List.foldl,Ord.dstOf,dZ,dQ,dL,Option.bind_some,Act.put,aU,bN,bM];rw[C4,J,hv3];replace ht:=(InT.mono (fun b (hb:Mz _ z b)=>(⟨hb.1,fun h=> hb.2 (h▸gz)⟩:(fun b=> N b/\b≠l.heap.size+1) b/\b≠gb)) (fun _ _=> rfl) ht).ret (m0 a1) (m0 a2) (.slice a3 a4 a5);have I:=De X Z br;have X1:=X;replace X:=X.trans hE.1;have Zx:=cbn bx;clear hG hE gz C4 J;refine O0 13 (by kernel_rfl) rfl rfl (fun K hK=> ?_)
  go_simp
  have e:=Off.new3 X (Nat.le_trans X1.size Z) bx (m0 a1) (m0 a2) (.slice a3 a4 a5);refine hK.out _ _ e.1.off (fun _=> ?_);clear hK K Zx;replace X:=e.1;have E:=e.2;generalize cM (cM (cM O _ _) _ _) _ _=w5 at*;refine O2 [14] 0 (by kernel_rfl) X.off (fun _ _ _ _ _ h=> h) ?_;refine tk rfl (by rfl) (by intro w X;go_simp;(try with_reducible rfl)) ?_
  try simp only[N2]
  refine bP (by kernel_rfl) ?_ _;clear bx e X1;replace F:=hdq (both (rb F.out X) (both (m7 E I) (ht.up (xr _))));replace j:=hdq (j.out.ext X);replace br:=X.blk br;replace m:=m.trans X;replace X:=xr w5;replace Q:=F.out _ X.off;clear E ht I Z;rw[<-HY.out] at*;obtain⟨x,t⟩ |hc:=cz (mkV Y).2
  · have R:=cbn (X.blk br)
    go_wp2_with fail;exact D9 (by simp[aR,results143,go_sem,R]) (D.out x.out) ((m.trans X).set3 (aQ _) _ _ _) rfl
  rw[hc];obtain⟨sD,c,P,K2,K3⟩:=a7 (B.out hc);obtain⟨hv,y⟩:=ds hc;have HV:=hdq (show j0 D0 (mkV Y).1=true by rw[y];exact hv);clear B D hv y hc;go_wp2_with fail;refine(ir.out _ _ (j.out.ext X).hx (j.out.ext X).hN (j.out.ext X).hG _ _ Q.2.2 HV.out _ P.out).mono ?_;rintro e w6 ⟨u,rfl,hT,e⟩;replace X:=X.trans e;replace Q:=F.out _ X.off;obtain⟨_,_,_,_,_,rfl⟩:=hT.three;simp only;obtain⟨x,t⟩ |rfl:=cz c
  · have R:=cbn (X.blk br)
    have L:=fun o=> cbn ((X.alloc o).blk br)
    go_wp2_with fail;exact D9 (by simp[aR,results143,go_sem,R,L]) (K3.out x.out) (((m.trans X).alloc _).set3 (aQ _) _ _ _) rfl
  have R:=cbn (X.blk br);have L:=fun o=> cbn ((X.alloc o).blk br)
  go_wp2_with fail;exact R6 (by simp[aR,results143,go_sem,R,L]) (InT.later Q.2.2 ((xr _).alloc _)) ((bY (K2.out (by trivial))).symm) ((m.trans X).alloc _) (aQ _) rfl
