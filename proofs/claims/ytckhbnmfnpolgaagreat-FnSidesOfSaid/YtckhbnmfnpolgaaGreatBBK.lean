/-
  Lemmas towards the law, 37: Rd5, SIt, InfN, MAgIt.
-/
import Derived.Test.YtckhbnmfnpolgaaGreatBBJ
open List renaming mem_of_getElem?->fS,length_cons->bY
open Go renaming World->aK,Value->aS,heap_alloc_new->aR,bodyPost_ret->aO,results->aQ
open Go.Value renaming string->iV
open Go.Proofs.Tryz
set_option linter.unusedVariables false
set_option maxHeartbeats 8000000
set_option maxRecDepth 100000
namespace Go.Proofs.YtckhbnmfnpolgaaGreat
open Go Go.RowKit
attribute [local go_sem ↓] Go.wp_at_zero Go.wp_at_succ
def Za(a:List (List UInt8)):List Tr:=a.filterMap kc
theorem vI{a:List (List UInt8)}{j:Nat}(h:j < a.length):Za (a.drop j)=(match kc a[j] with|none=> [] |some t=> [t])++Za (a.drop (j+1)):=by
 unfold Za;rw[List.drop_eq_getElem_cons h,List.filterMap_cons];cases kc a[j] <;> rfl
theorem AF{a:List (List UInt8)}{t:Tr}(h:t∈Za a):j0 m0 t=true:=by
 unfold Za at h;obtain⟨l,-,b⟩:=List.mem_filterMap.1 h;exact(DE b).1
def gC:List (List UInt8):= []
def Ly:List (List UInt8):= [[91,42,48,93,91,35,48,93,35,48], [91,78,93,33,35,48], [91,78,93,91,78,93,60,91,78,93,78,44,35,49,44,91,78,93,91,78,93,43,35,48,44,35,48,62], [40,78,62,42,48,41], [40,91,42,48,93,91,35,48,93,35,48,32,78,41], [91,40,78,42,78,41,93,124,40,78,42,78,41,44,95,35,48,44,94,35,48,124], [91,78,93,124,40,78,42,123,78,44,35,48,44,35,49,125,41,44,35,48,44,33,35,48,124], [91,78,93,91,78,93,91,123,78,44,35,49,44,35,48,125,93,64,60,91,78,93,123,78,44,35,48,44,35,51,125,44,35,48,44,33,35,50,62], [60,91,78,93,42,48,44,78,44,91,78,93,91,42,48,93,40,78,62,35,49,41,44,43,43,48,62], [40,42,48,62,40,35,48,62,35,49,41,41], [91,42,48,93,91,40,35,48,62,35,49,41,93,35,48], [42,50]]
def Ux:List (List UInt8):= [[42,48], [35,48], [40,35,49,62,35,50,41]]
def zB:List (List UInt8):= [[40,35,48,32,35,49,41], [33,35,49], [123,35,50,44,35,49,44,40,35,48,32,35,49,41,125], [91,35,50,93,35,49], [124,40,35,50,42,35,51,41,44,35,49,44,40,35,48,32,35,49,41,124], [91,123,35,50,44,35,49,44,40,35,48,32,35,49,41,125,93,64,60,91,35,51,93,35,52,44,35,48,44,35,50,62]]
def uA:List (List UInt8):= [[78], [123,78,44,35,48,44,43,48,125]]
def pC:List (List UInt8):= [[35,48], [64,60,91,78,93,123,78,44,43,35,50,44,43,35,48,125,44,35,48,44,33,43,35,49,62], [43,35,49], [64,60,91,78,93,78,44,35,48,44,35,49,62], [60,91,78,93,78,44,48,44,91,78,93,91,78,93,35,49,44,35,49,62]]
def Py:List (List UInt8):= [[40,78,62,42,48,41], [40,78,62,40,35,49,32,35,48,41,41]]
def wB:List (List UInt8):= [[40,35,48,32,48,41], [91,78,93,40,35,49,32,35,48,41], [40,35,49,32,43,43,48,41], [91,78,93,91,123,78,44,35,48,44,48,125,93,64,60,35,51,44,35,48,44,40,35,50,32,35,49,41,62]]
def j89:List (List (List UInt8)×List (List UInt8)):= [(gC,Ly),(Ux,zB),(uA,pC),(Py,wB)]
theorem Vq: ∀p∈j89,∃q∈txts,Za p.1=ctxE q.1/\Za p.2=q.2.map enc/\p.1.length<=12/\p.2.length<=12/\(∀x∈p.1,x.length<=1000)/\(∀x∈p.2,x.length<=1000)/\(Za p.1).length<=3/\0 <(Za p.2).length/\(Za p.2).length<=12:=by
 intro p a;simp only[j89,List.mem_cons,List.not_mem_nil,or_false] at a;rcases a with rfl|rfl|rfl|rfl
 · exact⟨_,fS (i:=0) rfl,by decide+kernel,by decide+kernel,by decide,by decide,by decide,by decide,by decide+kernel,by decide+kernel,by decide+kernel⟩
 · exact⟨_,fS (i:=1) rfl,by decide+kernel,by decide+kernel,by decide,by decide,by decide,by decide,by decide+kernel,by decide+kernel,by decide+kernel⟩
 · exact⟨_,fS (i:=2) rfl,by decide+kernel,by decide+kernel,by decide,by decide,by decide,by decide,by decide+kernel,by decide+kernel,by decide+kernel⟩
 · exact⟨_,fS (i:=3) rfl,by decide+kernel,by decide+kernel,by decide,by decide,by decide,by decide,by decide+kernel,by decide+kernel,by decide+kernel⟩
def Nf(w:aK)(b:Nat)(xs:List (List UInt8)):Prop:=b < w.heap.size/\ ∀j (a:j < xs.length),w.cell? ⟨b,0+j,none⟩=some (.string (S5 xs[j]))
theorem Nf.ext{w c:aK}{b:Nat}{a:List (List UInt8)}(h:Nf w b a)(d:Ext w c):Nf c b a:=⟨Nat.lt_of_lt_of_le h.1 d.size,fun j e=> d.cell (h.2 j e)⟩
theorem Nf.of{w:aK}{b:Nat}{xs:List (List UInt8)}{e:TypeId}(h:w.heap[b]? =some (.cells (xs.map fun x=> iV (S5 x)).toArray e (0,0))):Nf w b xs:=
 ⟨O1 h,fun j a=> by rw[Nat.zero_add,i1 h];simp[a]⟩
theorem Mv(p:List (List UInt8)×List (List UInt8))(i:p∈j89)(w:aK)(e:TypeId): ∃g f q,Ending.returned (Value.tuple #[.slice (some ⟨w.heap.size,0,none⟩) p.1.length p.1.length,.slice (some ⟨w.heap.size+1,0,none⟩) p.2.length p.2.length])= .returned (.tuple #[.slice (some ⟨g,0,none⟩) (Prod.fst q).length q.1.length,.slice (some ⟨f,0,none⟩) q.2.length q.2.length])/\q∈j89/\Nf ((w.alloc (.cells (p.1.map fun x=> iV (S5 x)).toArray e)).alloc (.cells (p.2.map fun x=> iV (S5 x)).toArray e)) g q.1/\Nf ((w.alloc (.cells (p.1.map fun x=> iV (S5 x)).toArray e)).alloc (.cells (p.2.map fun x=> iV (S5 x)).toArray e)) f q.2/\Ext w ((w.alloc (.cells (p.1.map fun x=> iV (S5 x)).toArray e)).alloc (.cells (p.2.map fun x=> iV (S5 x)).toArray e)):=by
 obtain⟨c,d,-,hx⟩:=box2 (w:=w) (a:= .cells (p.1.map fun x=> iV (S5 x)).toArray e) (b:= .cells (p.2.map fun x=> iV (S5 x)).toArray e) rfl;exact⟨_,_,p,rfl,i,Nf.of c,Nf.of d,hx⟩
theorem Wz(k:Int)(w:aK):Calls prog 110 #[.int .i64 k] w fun e a=> ∃f d p,e= .returned (.tuple #[.slice (some ⟨f,0,none⟩) (Prod.fst p).length p.1.length,.slice (some ⟨d,0,none⟩) p.2.length p.2.length])/\p∈j89/\Nf a f p.1/\Nf a d p.2/\Ext w a:=by
 have H:=hdq fun p i=> Mv p i w 9
 by_cases b:k=0
 · subst b
   go_enter func110,ntmps110;go_wp2_with fail;go_ret2;exact H.out (gC,Ly) (by simp[j89])
 have j:(k==0)=false:=beq_eq_false_iff_ne.2 b;by_cases c:k=1
 · subst c
   go_enter func110,ntmps110;go_wp2_with fail;go_ret2;exact H.out (Ux,zB) (by simp[j89])
 have l:(k==1)=false:=beq_eq_false_iff_ne.2 c;by_cases g:k=2
 · subst g
   go_enter func110,ntmps110;go_wp2_with fail;go_ret2;exact H.out (uA,pC) (by simp[j89])
 have m:(k==2)=false:=beq_eq_false_iff_ne.2 g;go_enter func110,ntmps110;go_wp2_with fail;go_ret2;exact H.out (Py,wB) (by simp[j89])
theorem Ww(a:List (List UInt8))(b:Nat)(w:aK)(hx:Nf w b a)(hn:a.length<=12)(q: ∀x∈a,x.length<=1000):
 Calls prog 98 #[.slice (some ⟨b,0,none⟩) a.length a.length] w fun e O=> ∃A c,e= .returned (.slice A (Za a).length c)/\((Za a).length<=c/\c<=maxLen/\(A=none->c=0))/\Mb w.heap.size O A (Za a)/\Ext w O:=by
 have HN:=hdq hx;have wz:=hdq q;obtain⟨N,z⟩: ∃N,a.length=N:=⟨_,rfl⟩;rw[z] at hn⊢;have P:=hdq z;obtain⟨R,y⟩: ∃R,Za a=R:=⟨_,rfl⟩;rw[y];have HR:=hdq y;clear q z y hx;go_enter func98,ntmps98;go_wp2_with fail;have H:=xb.lit (xr w);have l:=(xr w).alloc (.cells #[] 25);generalize w.alloc _=w0 at l H⊢
 go_loopw [3,4] (fun Z i wr=> ∃(v:aS) (j:Nat) (d:List Tr),v=Z/\j<=N/\i= .int .i64 j/\xb w wr v d/\d.length<=j/\Hid (d++Za (a.drop j)=R)/\Ext w wr) (fun _ i _=> N -(intOf i).toNat)
 case atStart=> exact⟨_,0, [],rfl,Nat.zero_le _,rfl,H,Nat.le_refl _,hdq (by simpa using HR.out),l⟩
 case round=>
  obtain⟨v,j,d,rfl,hj,rfl,hG,S,E,hx⟩:=hrel;clear H l;by_cases C:j < N
  · have uv:(j:Int) <(N:Int):=by omega
    have s:j < a.length:=by rw[P.out];exact C
    have f:=vI s;have Q:=hx.cell (HN.out.2 j s);rw[Nat.zero_add] at Q;obtain⟨x,D⟩: ∃x,x=a[j]:=⟨_,rfl⟩;have D5:(S5 x).size<=1000000000:=by have:=wz.out _ (List.getElem_mem s);rw[Ws,D];omega
    rw[<-D] at f Q;have r:=hdq (fun W=> aH (S5 x) W D5);rw[cA] at r;generalize kc x=L at r f;have p:=hdq f;clear f D s;go_wp2_with fail;refine(r.out _).mono ?_;rintro e F ⟨u,rfl,hF,e3⟩;obtain⟨m,k,o,n,g,rfl⟩:=hF.three;have G:=e3.alloc (.cells #[.int .i64 m,.int .i64 k,.slice o n g] 25);obtain⟨V,X,s2,-⟩:=own3 (aR F (.cells #[.int .i64 m,.int .i64 k,.slice o n g] 25));clear r;cases L with
    |none=>
     have B:=hdq (show d++Za (a.drop (j+1))=R by rw[<-E.out,p.out];simp);have pd:=hG.ext G;clear V X s2;go_wp2_with fail
     go_roundw
     case rel=> exact⟨_,j+1,d,rfl,by omega,by go_num,pd,by omega,B,hx.trans G⟩
     case measure=> simp[intOf];omega
    |some t=>
     have B:=hdq (show(d++ [t])++Za (a.drop (j+1))=R by rw[<-E.out,p.out];simp);have M:=G.alloc (.cells #[.int .i64 m,.int .i64 k,.slice o n g] 25);have hT:=(hF.ext ((xr F).alloc (.cells #[.int .i64 m,.int .i64 k,.slice o n g] 25))).ext ((xr _).alloc (.cells #[.int .i64 m,.int .i64 k,.slice o n g] 25));have J:=aR (F.alloc (.cells #[.int .i64 m,.int .i64 k,.slice o n g] 25)) (.cells #[.int .i64 m,.int .i64 k,.slice o n g] 25);rw[World.size_alloc] at J;have U:=hx.trans M;go_wp2_with (at_builtin;refine mH (.tmp 23) (.tmp 25) hG M hx hT (by omega) rfl rfl rfl rfl J ?_)
     intro A c w6 qi jk;go_wp2_with fail
     go_roundw
     case rel=> exact⟨_,j+1,d++ [t],rfl,by omega,by go_num,qi,by simp;omega,B,Below.trans U jk⟩
     case measure=> simp[intOf];omega
  · have K:d=R:=by
     rw[<-E.out,List.drop_of_length_le (by rw[P.out];omega)];simp[Za]
    obtain⟨A,c,rfl,q1,Y,T,hK⟩:=hG.row;have I:=hdq K;clear K;go_wp2_with fail;go_ret;rw[<-I.out];exact⟨A,c,rfl,⟨q1,Y,T⟩,hK,hx⟩
end Go.Proofs.YtckhbnmfnpolgaaGreat
namespace Go.Proofs.YtckhbnmfnpolgaaGreat
open Go.RowKit
attribute [local go_sem ↓] Go.wp_at_zero Go.wp_at_succ
theorem gH(s:Tr)(c:Int)(d:aK)(N:Nat->Prop)(hN: ∀b,d.heap.size<=b->N b)(v:aS)(p:Lies d s v)(hv:c=0->j0 m0 s=true)(r:Tr×Int)(g:c=0->r=(s,0))(i:c≠0->r=(E2,c)):Calls prog 90 #[v,.int .i64 c] d (N9 N d r):=by
 have y:=hdq (fun(h:c=0) W (O:Ext d W)=> Yg s W v (p.ext O) (by have:=(Z3 (hv h)).2;omega));obtain⟨k,n,E⟩:=s;obtain⟨At,ct,rfl,-⟩:=Lies.mk_iff.1 p;clear p hv;by_cases a:c=0
 case neg=>
  obtain rfl:=i a;have t1:(c !=0)=true:=by simp[a]
  clear a g i y;obtain⟨z,f,B⟩:=W3 (xr ((d.alloc (.cells #[.int .i64 k,.int .i64 n,.slice At E.length ct] 25)).alloc (.cells #[.int .i64 0,.int .i64 0,.slice none 0 0] 25)));obtain⟨m,q,l,Q,P,F⟩:=own3 f;clear z B f;go_enter func90,ntmps90;go_wp2_with fail;refine aO (v:= .tuple #[.agg #[.int .i64 0,.int .i64 0,.slice none 0 0],.int .i64 c]) (by simp[aQ,results90,go_sem,m,q,l]) rfl ⟨_,rfl,F5 _ _ _ _,((xr _).alloc _).alloc _⟩
 subst a;obtain rfl:=g rfl;clear g i;obtain⟨D,o⟩: ∃x,x=((d.alloc (.cells #[.int .i64 k,.int .i64 n,.slice At E.length ct] 25)).alloc (.cells #[.int .i64 0,.int .i64 0,.slice none 0 0] 25)):=⟨_,rfl⟩;obtain⟨z,f,B,t⟩:=box2 o;obtain⟨M,j⟩: ∃M,M=(fun b=> N b/\b≠d.heap.size+1):=⟨_,rfl⟩;have S:=hdq (show∀b,D.heap.size<=b->M b by rw[j];exact Oa hN t.size (by omega));have I:=hdq j;clear j hN;go_enter func90,ntmps90;go_wp2_with fail;rw[<-o];clear o;refine(y.out (by first|rfl|trivial) D t).mono ?_;rintro e R ⟨u,rfl,A,w⟩;have Z:=w.size;have hT:=A.at' S.out;clear A y;obtain⟨U,G,K,V,X,rfl⟩:=hT.three;have T:=hdq hT;clear hT;have C:=w;have Y:=cb3 (C.blk z);have L:=Z9 (C.blk f);have H:=t;have J:=H.trans w;go_wp2_with fail;refine aO (v:= .tuple #[.agg #[.int .i64 U,.int .i64 G,.slice K V X],.int .i64 0]) (by simp[aQ,results90,go_sem,L]) rfl ⟨_,rfl,InT.ret (I.out▸(T.out.later (xr R))) _ _ _,(J.set3 (by omega) _ _ _)⟩
def Yj(f:Nat)(ctx:List Tr)(t:Tr):An:=if Xb ctx=false\/j0 m0 t=false then some (E2,3) else thn (Ft f ctx) fun _=> thn (M0 f ctx t) fun s=> some (s,0)
theorem Ut{w:aK}{A:Option Addr}{ca:Nat}{G:List Tr}(hl:G.length<=ca)(hc:ca<=maxLen)(hK:q24 w A G)(hA:A=none->ca=0)(a:G.length<=8/\ ∀x∈G,j0 m0 x=true):SJ w AllN A G ca:=
 ⟨fun _ _=> trivial,hl,hc,InK.all hK,by omega,hA,a.2⟩
theorem DJ(f:Nat)(G:List Tr)(A:Option Addr)(ca:Nat)(i:aK)(hK:q24 i A G)(hl:G.length<=ca)(g:ca<=maxLen)(hA:A=none->ca=0)(t:Tr)(v:aS)(Q:Lies i t v)(N:Nat->Prop)(hN: ∀b,i.heap.size<=b->N b)(r:Tr×Int)(h:Yj f G t=some r):Calls prog 44 #[.slice A G.length ca,v] i (N9 N i r):=by
 have zo:=hdq (fun W (o:Ext i W)=> TA G W A ca (hK.ext o) hl g);have fj:=hdq (fun W (o:Ext i W)=> oi t W v (Q.ext o));have X:=hdq (fun W (o:Ext i W) r0 h0=> FJ f G W A ca (hK.ext o) hl g r0 h0);have B:=hdq (fun W (o:Ext i W) (h8:Xb G=true) q L=> Fr f G t q L W AllN A ca v (Ut hl g (hK.ext o) hA (Tz h8)) (InT.all (Q.ext o)));have HL:=hdq hl;have xm:=hdq g;obtain⟨z,R⟩: ∃z,Xb G=z:=⟨_,rfl⟩;obtain⟨za,S⟩: ∃z,j0 m0 t=z:=⟨_,rfl⟩;unfold Yj at h;rw[R,S] at h;rw[R] at zo B;rw[S] at fj;obtain⟨k,n,ks⟩:=t;obtain⟨At,ct,rfl,-⟩:=Lies.mk_iff.1 Q;clear Q hK R S hl g hA;obtain⟨w1,d9⟩: ∃x,x=((i.alloc (.cells #[.int .i64 k,.int .i64 n,.slice At ks.length ct] 25)).alloc (.cells #[.int .i64 0,.int .i64 0,.slice none 0 0] 25)):=⟨_,rfl⟩;obtain⟨m,l,s1,O⟩:=box2 d9;obtain⟨M,V⟩: ∃M,M=(fun b=> N b/\b≠i.heap.size+1):=⟨_,rfl⟩;have P5:=hdq (show∀b,w1.heap.size<=b->M b by rw[V];exact Oa hN O.size (by omega));have HM:=hdq V;clear V hN;go_enter func44,ntmps44;go_wp2_with fail;rw[<-d9];clear d9;refine(zo.out w1 O).mono ?_;rintro e w2 ⟨rfl,D⟩;have s2:=D.size;cases z with
 |false=>
  obtain rfl:r=(E2,3):=by simpa using h.symm
  clear h;have w:=D;have j:=cb3 (w.blk m);have a:=Z9 (w.blk l);have j7:=O;have H:=j7.trans D;go_wp2_with fail;refine aO (v:= .tuple #[.agg #[.int .i64 0,.int .i64 0,.slice none 0 0],.int .i64 3]) (by simp[aQ,results44,go_sem,a]) rfl ⟨_,rfl,F5 _ _ 0 0,(H.set3 (by omega) _ _ _)⟩
 |true=>
  have w:=D;have j:=cb3 (w.blk m);have a:=Z9 (w.blk l);go_wp2_with fail;clear j a;have j7:=O;have H:=j7.trans D;refine(fj.out w2 H).mono ?_;rintro e w3 ⟨rfl,E⟩;have s3:=E.size;cases za with
  |false=>
   obtain rfl:r=(E2,3):=by simpa using h.symm
   clear h;have p:=w.trans E;have j:=cb3 (p.blk m);have a:=Z9 (p.blk l);have F:=H.trans E;go_wp2_with fail;refine aO (v:= .tuple #[.agg #[.int .i64 0,.int .i64 0,.slice none 0 0],.int .i64 3]) (by simp[aQ,results44,go_sem,a]) rfl ⟨_,rfl,F5 _ _ 0 0,(F.set3 (by omega) _ _ _)⟩
  |true=>
   rw[if_neg (by simp)] at h;obtain⟨s0,c,h1,h2,h3⟩:=Xd h;clear h;have H1:=hdq h1;have H2:=hdq h2;have Y:=hdq h3;clear h1 h2 h3;have p:=w.trans E;have j:=cb3 (p.blk m);have a:=Z9 (p.blk l);go_wp2_with fail;clear j a;have F:=H.trans E;refine(X.out w3 F _ H1.out).mono ?_;rintro e w4 ⟨rfl,C⟩;have s4:=C.size;simp only;by_cases d:c=0
   case neg=>
    obtain rfl:=Y.out d;have t1:(c !=0)=true:=by simp[d]
    have t2:(c==0)=false:=by simp[d]
    clear d Y;have y:=p.trans C;have j:=cb3 (y.blk m);have a:=Z9 (y.blk l);have K:=F.trans C;go_wp2_with fail;refine aO (v:= .tuple #[.agg #[.int .i64 0,.int .i64 0,.slice none 0 0],.int .i64 c]) (by simp[aQ,results44,go_sem,a]) rfl ⟨_,rfl,F5 _ _ 0 0,(K.set3 (by omega) _ _ _)⟩
   have L:=H2.out d;subst d;clear H2 Y;obtain⟨s,c,g1,g2,g3⟩:=Xd L;clear H1 L;have G1:=hdq g1;have G2:=hdq g2;have G3:=hdq g3;clear g1 g2 g3;have y:=p.trans C;have j:=cb3 (y.blk m);have a:=Z9 (y.blk l);go_wp2_with fail;clear j a;have K:=F.trans C;refine(B.out w4 K (by first|rfl|trivial) _ G1.out).mono ?_;rintro e I ⟨u,rfl,hT,e5⟩;have s5:=e5.size;obtain⟨a1,a2,a3,a4,a5,rfl⟩:=hT.three;have Ta:=hdq hT;clear hT;simp only;have E0:=y.trans e5;have j:=cb3 (E0.blk m);have a:=Z9 (E0.blk l);obtain⟨Z,P⟩: ∃x,x=I.alloc (.cells #[.int .i64 a1,.int .i64 a2,.slice a3 a4 a5] 25):=⟨_,rfl⟩;have U:Ext I Z:=P▸(xr I).alloc _;have T:=aR I (.cells #[.int .i64 a1,.int .i64 a2,.slice a3 a4 a5] 25);rw[<-P] at T;have s6:I.heap.size < Z.heap.size:=O1 T;go_wp2_with fail;rw[<-P];clear P;clear j a;have ar:=E0.trans U;have cr:=U;refine(gH s c Z M (fun b hb=> P5.out b (Nat.le_trans ar.size hb)) _ (Ta.out.later cr).lies' (fun hc=> vF (hc▸G1.out)) r (fun hc=> by simpa using(G2.out hc).symm) G3.out).mono ?_;rintro e w7 ⟨u,rfl,hT,J⟩;have s7:=J.size;obtain⟨b1,b2,b3,b4,b5,rfl⟩:=hT.three;have Tb:=hdq hT;clear hT;have zl:=ar.trans J;have j:=cb3 (zl.blk m);have a:=Z9 (zl.blk l);have Fu:=J;have Zo:=cb3 (Fu.blk T);have J7:=K.trans e5;have eh:=J7.trans U;have ou:=eh.trans J;go_wp2_with fail;refine aO (v:= .tuple #[.agg #[.int .i64 b1,.int .i64 b2,.slice b3 b4 b5],.int .i64 r.2]) (by simp[aQ,results44,go_sem,a]) rfl ⟨_,rfl,InT.ret (HM.out▸(Tb.out.later (xr w7))) _ _ _,(ou.set3 (by omega) _ _ _)⟩
theorem fE{w:aK}{g:Nat}{e:TypeId}{t:Tr}{v0 v1 v2:aS}(a:w.heap[g]? =some (.cells #[v0,v1,v2] e (0,0)))(h:Lies w t (.agg #[v0,v1,v2])):q24 w (some ⟨g,0,none⟩) [t]:=
 .inr ⟨g,0,rfl,O1 a,⟨⟨v0,v1,v2,i1 a 0,i1 a 1,i1 a 2,h⟩,trivial⟩⟩
theorem GI{w:aK}{g:Nat}{e:TypeId}{t u:Tr}{v0 v1 v2 d c b:aS}(a:w.heap[g]? =some (.cells #[v0,v1,v2,d,c,b] e (0,0)))(h:Lies w t (.agg #[v0,v1,v2]))(k:Lies w u (.agg #[d,c,b])):q24 w (some ⟨g,0,none⟩) [t,u]:=
 .inr ⟨g,0,rfl,O1 a,⟨⟨v0,v1,v2,i1 a 0,i1 a 1,i1 a 2,h⟩,⟨d,c,b,i1 a 3,i1 a 4,i1 a 5,k⟩,trivial⟩⟩
theorem lC{f:Nat}{ctx l:List Tr}{u:Tr}(h:Va f ctx l=some (u,0)):Xb ctx=true:=by
 have:=(Nn h).1;unfold Zc at this
 split at this
 · assumption
 · simp at this
theorem VD(f:Nat)(ctx:List Tr)(A:Option Addr)(ca:Nat)(o:aK)(hG:q24 o A ctx)(J5:ctx.length<=ca)(D:ca<=maxLen)(t:Tr)(v:aS)(ht:Lies o t v)(N:Nat->Prop)(hN: ∀b,o.heap.size<=b->N b)(r:Tr×Int)(h:Uf f ctx t=some r):Calls prog 21 #[.slice A ctx.length ca,v] o (N9 N o r):=by
 have HN:=hdq hN;clear hN;obtain⟨q1,c,h1,h2,h3⟩:=Xd h;obtain⟨k,n,J⟩:=t;obtain⟨At,ct,rfl,hl,l8,hK⟩:=Lies.mk_iff.1 ht;have HT:=hdq ht;have HG:=hdq hG;have C:=hdq h1;have T:=hdq h2;have V:=hdq h3;have Bb:=hdq J5;have xm:=hdq D;clear h h1 h2 h3 ht hK hG J5 D;obtain⟨Y,d9⟩: ∃x,x=(((o.alloc (.cells #[.int .i64 k,.int .i64 n,.slice At J.length ct] 25)).alloc (.cells #[.int .i64 0,.int .i64 0,.slice none 0 0] 25)).alloc (.cells #[.int .i64 k,.int .i64 n,.slice At J.length ct] 25)):=⟨_,rfl⟩;obtain⟨E,q,y,s1,F⟩:=xg d9;obtain⟨M,R⟩: ∃M,M=(fun b=> N b/\b≠o.heap.size+1):=⟨_,rfl⟩;have P5:=hdq (show∀b,Y.heap.size<=b->M b from R▸Oa HN.out F.size (by omega));have HM:=hdq R;clear R;go_enter func21,ntmps21;go_wp2_with fail;rw[<-d9];clear d9;refine(BA f ctx Y A ca (HG.out.ext F) Bb.out xm.out [.mk k n J] _ 1 (fE y (HT.out.ext F)) (Nat.le_refl _) (by decide) _ C.out).mono ?_;rintro e w2 ⟨rfl,G⟩;have s2:=G.size;simp only;by_cases j:c=0
 case neg=>
  obtain rfl:=V.out j;have t1:(c !=0)=true:=by simp[j]
  clear j C T V;have a:=G;have z:=cb3 (a.blk E);have i:=Z9 (a.blk q);have p:=cb3 (a.blk y);have W:=F;have B:=W.trans G;go_wp2_with fail;refine aO (v:= .tuple #[.agg #[.int .i64 0,.int .i64 0,.slice none 0 0],.int .i64 c]) (by simp[aQ,results21,go_sem,i]) rfl ⟨_,rfl,F5 _ _ 0 0,(B.set3 (by omega) _ _ _)⟩
 subst j;obtain⟨s,d,h4,h5,h6⟩:=Xd (T.out rfl);have I:=hdq h4;have P:=hdq h5;have H6:=hdq h6;clear h4 h5 h6;have HF:=hdq (mv (lC C.out));have HV:=hdq ((Nn C.out).2 (.mk k n J) (by simp));have fy:=hdq (sv (f:=f) (w:=Y) (A:=A) Bb.out xm.out HF.out.2 (by have:=HF.out.1;omega));clear C T V;have a:=G;have z:=cb3 (a.blk E);have i:=Z9 (a.blk q);have p:=cb3 (a.blk y);go_wp2_with fail;clear z i p;have W:=F;have B:=W.trans G;refine(fy.out w2 AllN a (fun _ _=> trivial) (InK.all (HG.out.ext B)) _ _ (InT.all (HT.out.ext B)) HV.out _ I.out).mono ?_;rintro e m ⟨u,rfl,hT,H⟩;have s3:=H.size;simp only at hT⊢;obtain⟨a1,b1,A1,Q,O,rfl⟩:=hT.three;have T1:=hdq hT.lies';clear hT;by_cases K:d=0
 case neg=>
  obtain rfl:=H6.out K;have t1:(d !=0)=true:=by simp[K]
  clear K I P H6;have g:=a.trans H;have z:=cb3 (g.blk E);have i:=cbn (g.blk q);have p:=cb3 (g.blk y);have oc:Ext m (m.alloc (.cells #[.int .i64 a1,.int .i64 b1,.slice A1 Q O] 25)):=(xr m).alloc _;have l9:=B.trans H;have Pr:=cbn (oc.blk (g.blk q));go_wp2_with fail;refine aO (v:= .tuple #[.agg #[.int .i64 0,.int .i64 0,.slice none 0 0],.int .i64 d]) (by simp[aQ,results21,go_sem,i,Pr]) rfl ⟨_,rfl,F5 _ _ 0 0,((l9.trans oc).set3 (by omega) _ _ _)⟩
 subst K;obtain rfl:(s,(0:Int))=r:=by simpa using P.out rfl
 have Cr:=hdq (mF HV.out I.out);clear I P H6;have g:=a.trans H;have z:=cb3 (g.blk E);have i:=Z9 (g.blk q);have p:=cb3 (g.blk y);obtain⟨S,l⟩: ∃x,x=m.alloc (.cells #[.int .i64 a1,.int .i64 b1,.slice A1 Q O] 25):=⟨_,rfl⟩;have Z:Ext m S:=l▸(xr m).alloc _;have V8:=aR m (.cells #[.int .i64 a1,.int .i64 b1,.slice A1 Q O] 25);rw[<-l] at V8;have s4:m.heap.size < S.heap.size:=O1 V8;go_wp2_with fail;rw[<-l];clear l;clear z i p;have S7:=Z;refine(ti s S _ (T1.out.ext S7) (by have:=(Z3 Cr.out).2;omega)).mono ?_;rintro e w5 ⟨u,rfl,U,L⟩;have s5:=L.size;have o9:=g.trans Z;obtain⟨a2,b2,A2,l2,c2,rfl⟩:=U.three;have T2:=hdq (U.at' (N:=M) (fun b hb=> P5.out b (by have:=o9.size;omega)));clear U;have X:=o9.trans L;have z:=cb3 (X.blk E);have i:=Z9 (X.blk q);have p:=cb3 (X.blk y);have S8:=L;have Zx:=cb3 (S8.blk V8);have l9:=B.trans H;have q9:=l9.trans Z;have J7:=q9.trans L;go_wp2_with fail;refine aO (v:= .tuple #[.agg #[.int .i64 a2,.int .i64 b2,.slice A2 l2 c2],.int .i64 0]) (by simp[aQ,results21,go_sem,i]) rfl ⟨_,rfl,InT.ret (HM.out▸T2.out) _ _ _,(J7.set3 (by omega) _ _ _)⟩
theorem lH(f:Nat)(ctx:List Tr)(A:Option Addr)(ca:Nat)(q:aK)(hG:q24 q A ctx)(J5:ctx.length<=ca)(B:ca<=maxLen)(t:Tr)(v:aS)(ht:Lies q t v)(a:Tr)(vw:aS)(X:Lies q a vw)(r:Tr×Int)(h:fq f ctx t a=some r):Calls prog 16 #[.slice A ctx.length ca,v,vw] q fun e w'=> e= .returned (.int .i64 r.2)/\Ext q w':=by
 obtain⟨q1,c,h1,h2,h3⟩:=Xd h;obtain⟨k,n,I⟩:=t;obtain⟨At,ct,rfl,hl,l8,hK⟩:=Lies.mk_iff.1 ht;have HT:=hdq ht;have T:=hdq hG;have m:=hdq h1;have Q:=hdq h2;have R:=hdq h3;have Z:=hdq J5;have xm:=hdq B;clear h h1 h2 h3 ht hK hG J5 B;obtain⟨K,G,H⟩:=a;obtain⟨A8,c8,rfl,hl8,hc8,Hm⟩:=Lies.mk_iff.1 X;have P:=hdq X;clear X Hm;obtain⟨w1,W⟩: ∃x,x=(((q.alloc (.cells #[.int .i64 k,.int .i64 n,.slice At I.length ct] 25)).alloc (.cells #[.int .i64 K,.int .i64 G,.slice A8 H.length c8] 25)).alloc (.cells #[.int .i64 k,.int .i64 n,.slice At I.length ct,.int .i64 K,.int .i64 G,.slice A8 H.length c8] 25)):=⟨_,rfl⟩;obtain⟨C,z,p,s1,D⟩:=xg W;go_enter func16,ntmps16;go_wp2_with fail;rw[<-W];clear W;refine(BA f ctx w1 A ca (T.out.ext D) Z.out xm.out [.mk k n I,.mk K G H] _ 2 (GI p (HT.out.ext D) (P.out.ext D)) (Nat.le_refl _) (by decide) _ m.out).mono ?_;rintro e w2 ⟨rfl,E⟩;have s2:=E.size;simp only;by_cases i:c=0
 case neg=>
  obtain rfl:=R.out i;have t1:(c !=0)=true:=by simp[i]
  clear i m Q R;have S:=D;have l:=S.trans E;have b:=E;have u:=cb3 (b.blk C);have y:=cb3 (b.blk z);have o:=BB (b.blk p);go_wp2_with fail;go_ret
  first|exact⟨rfl,l⟩ |exact l
 subst i;obtain⟨s,d,h4,h5,h6⟩:=Xd (Q.out rfl);have O:=hdq h4;have M:=hdq h5;have V:=hdq h6;clear h4 h5 h6;have HF:=hdq (mv (lC m.out));have HV:=hdq ((Nn m.out).2 (.mk k n I) (by simp));have fy:=hdq (sv (f:=f) (w:=w1) (A:=A) Z.out xm.out HF.out.2 (by have:=HF.out.1;omega));have L:=hdq ((Nn m.out).2 (.mk K G H) (by simp));clear m Q R;have b:=E;have u:=cb3 (b.blk C);have y:=cb3 (b.blk z);have o:=BB (b.blk p);go_wp2_with fail;clear u y o;have S:=D;have l:=S.trans E;refine(Ot fy.out w2 AllN b (fun _ _=> trivial) (InK.all (T.out.ext l)) _ _ (InT.all (P.out.ext l)) L.out _ O.out).mono ?_;rintro e w3 ⟨rfl,F⟩;have s3:=F.size;simp only;by_cases J:d=0
 case neg=>
  obtain rfl:=V.out J;have t1:(d !=0)=true:=by simp[J]
  clear J O M V;have j:=l.trans F;have g:=b.trans F;have u:=cb3 (g.blk C);have y:=cb3 (g.blk z);have o:=BB (g.blk p);go_wp2_with fail;go_ret
  first|exact⟨rfl,j⟩ |exact j
 subst J;obtain⟨d,h7,Y,h9⟩:=ku (M.out rfl);have H7:=hdq h7;obtain rfl:r.2=d:=by
  by_cases hd:d=0
  · obtain rfl:(E2,(0:Int))=r:=by simpa using Y hd
    exact hd.symm
  · rw[h9 hd]
 clear h7 Y h9 O M V;have g:=b.trans F;have u:=cb3 (g.blk C);have y:=cb3 (g.blk z);have o:=BB (g.blk p);go_wp2_with fail;clear u y o;have j:=l.trans F;refine(nI fy.out w3 g (T.out.ext j) _ _ (HT.out.ext j) HV.out _ _ (P.out.ext j) _ H7.out).mono ?_;rintro e w4 ⟨rfl,U⟩;have s4:=U.size;have q9:=j.trans U;have N:=g.trans U;have u:=cb3 (N.blk C);have y:=cb3 (N.blk z);have o:=BB (N.blk p);go_wp2_with fail;go_ret
 first|exact⟨rfl,q9⟩ |exact q9
end Go.Proofs.YtckhbnmfnpolgaaGreat
namespace Go.Proofs.YtckhbnmfnpolgaaGreat
open Go.RowKit
open M (Hd HR Cv Ty M2 zc y6 W4 dep DG fvb)
def SD:List Tr->Prop
 | []=> True
 |t::ts=>(∀A,t=enc A->dep A<=4)/\(ts≠ []-> ∀A,t=enc A->dep A<=3)/\SD ts
theorem nr(f a:Nat): ∀(ts:List Tr) (G:List M.Tm),X6 G->DG G 3->G.length+ts.length<=8->(∀t∈ts,j0 m0 t=true)->SD ts->Rl False (ccRS f (ctxE G) ts) (ccR a (ctxE G) ts)
 | [],G,_,_,_,_,_=> Rl.rfl' _
 |t::ts,G,hG,c,hl,hv,hs=> by
  obtain⟨A,rfl⟩:=Zk (hv t (by simp));simp only[bY] at hl;have d:=hs.1 A rfl;have ag:=iI A G hG c d (by omega) (hv _ (by simp));refine((ag f a).frm 2).seq fun s g e=> ?_
  obtain⟨S,i,-,-,-,-,b,-⟩:=Ld (snd a) hG (hv _ (by simp)) e;rw[<-md];by_cases ht:ts= []
  · subst ht;exact Rl.rfl' _
  · exact nr f a ts (A::G) (hG.cons b (hv _ (by simp))) (c.cons (hs.2.1 ht A rfl)) (by simp only[bY];omega) (fun x hx=> hv x (by simp[hx])) hs.2.2
theorem xB{f b:Nat}{ctx:List Tr}{t:Tr}(hs:SD ctx)(j: ∀G a,ctx=ctxE G->t=enc a->X6 G->G.length<=8->j0 m0 t=true->Ag G a):Rl False (Yj f ctx t) (Uf b ctx t):=by
 unfold Yj Uf;by_cases hf:Xb ctx=true
 · obtain⟨g,hv⟩:=mv hf
   have c:=nr f b ctx [] X6.nil M.DG.nil (by simpa using g) hv hs;have k:Ft f ctx=ccRS f (ctxE []) ctx:=by unfold Ft;rw[if_pos hf];rfl
   have e:Zc b ctx=ccR b (ctxE []) ctx:=by unfold Zc;rw[if_pos hf];rfl
   by_cases ht:j0 m0 t=true
   · rw[if_neg (by simp[hf,ht])]
     have l:Va b ctx [t]=Zc b ctx:=by
      unfold Va;cases Zc b ctx with
      |none=> rfl
      |some r=> simp[ht]
     rw[l,k];rw[<-e] at c;refine c.seq fun s m i=> ?_
     obtain⟨G,rfl,hG,hl⟩:=Lv i;obtain⟨a,rfl⟩:=Zk ht;exact(j G a rfl rfl hG hl ht f b).seq fun s _ _=> Rl.rfl' _
   · rw[if_pos (.inr (by simpa using ht))]
     unfold Va;cases h:Zc b ctx with
     |none=> exact Rl.no' _
     |some r=> simp[ht,thn];exact Rl.rfl' _
 · have d:Xb ctx=false:=by simpa using hf
   rw[if_pos (.inl d)];unfold Va;have e:Zc b ctx=some (E2,3):=by unfold Zc;rw[if_neg hf]
   rw[e];by_cases ht:j0 m0 t=true <;> simp[ht,thn] <;> exact Rl.rfl' _
theorem SD.mem: ∀{ts:List Tr},SD ts-> ∀A,enc A∈ts->dep A<=4
 | [],_,A,h=> by simp at h
 |t::ts,h,A,hm=> by
  rcases List.mem_cons.1 hm with e|hm
  · exact h.1 A e.symm
  · exact SD.mem h.2.2 A hm
theorem SD.dg{G:List M.Tm}(h:SD (ctxE G)):DG G 4:=fun A hA=> h.mem A (by unfold ctxE;rw[List.mem_reverse];exact List.mem_map_of_mem hA)
theorem SD.of{G:List M.Tm}(h:DG G 3):SD (ctxE G):=by
 have: ∀ts:List Tr,(∀A,enc A∈ts->dep A<=3)->SD ts:=by
  intro ts
  induction ts with
  |nil=> exact fun _=> trivial
  |cons t ts ih=> exact fun k=>⟨fun A e=> by have:=k A (by simp[e]);omega,fun _ A e=> k A (by simp[e]),ih fun A hA=> k A (by simp[hA])⟩
 refine this _ fun A hA=> ?_
 unfold ctxE at hA;rw[List.mem_reverse,List.mem_map] at hA;obtain⟨B,a,e⟩:=hA;rw[<-be e];exact h B a
def Dr(G:List M.Tm)(a:M.Tm):Prop:=SG a\/(DG G 3/\(dep a<=4\/ ∃t i u,a=ao t i u/\SG t/\ke G t/\dep u<=4))
theorem q245{f f':Nat}{ctx:List Tr}{t:Tr}(hs:SD ctx)(hd: ∀G a,ctx=ctxE G->t=enc a->X6 G->j0 m0 t=true->Dr G a):Rl False (Yj f ctx t) (Uf f' ctx t):=
 xB hs fun G a e g hG j hv=> by
  subst e g;rcases hd G a rfl rfl hG hv with h|⟨b,h|⟨t,i,u,rfl,h,c,d⟩⟩
  · exact Jr a G h hG hs.dg (by omega) hv
  · exact iI a G hG b h (by omega) hv
  · exact Ur hG b (by omega) _ (tn h c d i) hv
theorem NC.side{n:Nat}{t:M.Tm}(h:NC n t){G:List M.Tm}(hn:NG n G)(hG:X6 G)(hv:j0 m0 (enc t)=true):ke G t:=by
 cases h with
 |move d c=>
  obtain⟨T,b,-,a⟩:=c.ty hn;exact Tg.of hG (Z0 hv (by simp)) b a
 |_=> trivial
theorem Vu{G:List M.Tm}{t:M.Tm}(h:gD G t=true):X6 G/\G.length<=8/\j0 m0 (enc t)=true/\ ∃A,Ty G t A/\M2 G t:=by
 unfold gD at h
 split at h
 · rename_i s c hc
   have:c=0:=by simpa using h
   subst this;obtain⟨i,a,A,d,hG,g,f,hv,-,e,b,-⟩:=pz hc;cases xt d
   cases be f
   exact⟨hG,g,hv,A,e,b⟩
 · cases h
def Ni(G:List M.Tm):M.Tm->Bool
 | .pi A B=> decide (dep A<=3)
 | .lam A B=> decide (dep A<=3)
 | .sg A B=> decide (dep A<=3)
 | .move p e a=> gD G a
 | .pair T a b=> gD G b
 |_=> true
theorem Im{G:List M.Tm}{t:M.Tm}(h:Ni G t=true):ke G t:=by
 cases t <;> simp only[Ni,decide_eq_true_eq] at h <;> simp only[ke] <;> try trivial
 case move p e a=>
  obtain⟨hG,-,hv,A,c,d⟩:=Vu h;exact Tg.of hG hv c d
 case pair T a b=>
  obtain⟨hG,-,hv,A,c,d⟩:=Vu h;exact Tg.of hG hv c d
theorem RD:(txts.all fun p=> p.2.all (Ni p.1))=true:=by decide+kernel
theorem Kv{G:List M.Tm}{l:List M.Tm}{t:M.Tm}(h:(G,l)∈txts)(ht:t∈l):SG t/\ke G t/\DG G 3/\X6 G/\j0 m0 (enc t)=true/\ ∃A,Ty G t A/\M2 G t:=by
 have b:=List.all_eq_true.1 (List.all_eq_true.1 Rt _ h) t ht;have c:=List.all_eq_true.1 (List.all_eq_true.1 RD _ h) t ht;have d:=List.all_eq_true.1 (List.all_eq_true.1 pv _ h) t ht;have a:=List.all_eq_true.1 Rr _ h;obtain⟨hG,-,hv,hA⟩:=Vu d;exact⟨Br b,Im c,fun A hA=> by have:=List.all_eq_true.1 a A hA;simpa using this,hG,hv,hA⟩
