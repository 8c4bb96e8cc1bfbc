/- Lemmas towards the law. -/
import Derived.Test.YtckhbnmfnpolgaaGreatTBI
open List renaming mem_of_getElem?->gP,length_cons->bX
open Go renaming World->aN,Value->aU,heap_alloc_new->aT,bodyPost_ret->aQ,results->aS
open Go.Value renaming string->jY
open Go.Proofs.Tryz
set_option linter.all false
set_option maxHeartbeats 8000000
set_option maxRecDepth 100000
namespace Go.Proofs.YtckhbnmfnpolgaaGreat
open Go Go.RowKit
attribute [local go_sem ↓] Go.wp_at_zero Go.wp_at_succ
def Ub(a:List (List UInt8)):List Tr:=a.filterMap bd
theorem wG{a:List (List UInt8)}{j:Nat}(h:j < a.length):Ub (a.drop j)=(match bd a[j] with|none=> [] |some t=> [t])++Ub (a.drop (j+1)):=by
 unfold Ub;rw[List.drop_eq_getElem_cons h,List.filterMap_cons];cases bd a[j] <;> rfl
theorem PI{a:List (List UInt8)}{t:Tr}(h:t∈Ub a):valid sigT t=true:=by
 unfold Ub at h;obtain⟨l,-,b⟩:=List.mem_filterMap.1 h;exact(GJ b).1
def pD:List (List UInt8):= []
def LC:List (List UInt8):= [[91,42,48,93,91,35,48,93,35,48], [91,78,93,33,35,48], [91,78,93,91,78,93,60,91,78,93,78,44,35,49,44,91,78,93,91,78,93,43,35,48,44,35,48,62], [40,78,62,42,48,41], [40,91,42,48,93,91,35,48,93,35,48,32,78,41], [91,40,78,42,78,41,93,124,40,78,42,78,41,44,95,35,48,44,94,35,48,124], [91,78,93,124,40,78,42,123,78,44,35,48,44,35,49,125,41,44,35,48,44,33,35,48,124], [91,78,93,91,78,93,91,123,78,44,35,49,44,35,48,125,93,64,60,91,78,93,123,78,44,35,48,44,35,51,125,44,35,48,44,33,35,50,62], [60,91,78,93,42,48,44,78,44,91,78,93,91,42,48,93,40,78,62,35,49,41,44,43,43,48,62], [40,42,48,62,40,35,48,62,35,49,41,41], [91,42,48,93,91,40,35,48,62,35,49,41,93,35,48], [42,50]]
def TA:List (List UInt8):= [[42,48], [35,48], [40,35,49,62,35,50,41]]
def XE:List (List UInt8):= [[40,35,48,32,35,49,41], [33,35,49], [123,35,50,44,35,49,44,40,35,48,32,35,49,41,125], [91,35,50,93,35,49], [124,40,35,50,42,35,51,41,44,35,49,44,40,35,48,32,35,49,41,124], [91,123,35,50,44,35,49,44,40,35,48,32,35,49,41,125,93,64,60,91,35,51,93,35,52,44,35,48,44,35,50,62]]
def pE:List (List UInt8):= [[78], [123,78,44,35,48,44,43,48,125]]
def wF:List (List UInt8):= [[35,48], [64,60,91,78,93,123,78,44,43,35,50,44,43,35,48,125,44,35,48,44,33,43,35,49,62], [43,35,49], [64,60,91,78,93,78,44,35,48,44,35,49,62], [60,91,78,93,78,44,48,44,91,78,93,91,78,93,35,49,44,35,49,62]]
def VB:List (List UInt8):= [[40,78,62,42,48,41], [40,78,62,40,35,49,32,35,48,41,41]]
def tC:List (List UInt8):= [[40,35,48,32,48,41], [91,78,93,40,35,49,32,35,48,41], [40,35,49,32,43,43,48,41], [91,78,93,91,123,78,44,35,48,44,48,125,93,64,60,35,51,44,35,48,44,40,35,50,32,35,49,41,62]]
def j84:List (List (List UInt8)×List (List UInt8)):= [(pD,LC),(TA,XE),(pE,wF),(VB,tC)]
theorem du: ∀p∈j84,∃q∈txts,Ub p.1=ctxE q.1/\Ub p.2=q.2.map enc/\p.1.length<=12/\p.2.length<=12/\(∀x∈p.1,x.length<=1000)/\(∀x∈p.2,x.length<=1000)/\(Ub p.1).length<=3/\0 <(Ub p.2).length/\(Ub p.2).length<=12:=by
 intro p a;simp only[j84,List.mem_cons,List.not_mem_nil,or_false] at a;rcases a with rfl|rfl|rfl|rfl
 · exact⟨_,gP (i:=0) rfl,by decide+kernel,by decide+kernel,by decide,by decide,by decide,by decide,by decide+kernel,by decide+kernel,by decide+kernel⟩
 · exact⟨_,gP (i:=1) rfl,by decide+kernel,by decide+kernel,by decide,by decide,by decide,by decide,by decide+kernel,by decide+kernel,by decide+kernel⟩
 · exact⟨_,gP (i:=2) rfl,by decide+kernel,by decide+kernel,by decide,by decide,by decide,by decide,by decide+kernel,by decide+kernel,by decide+kernel⟩
 · exact⟨_,gP (i:=3) rfl,by decide+kernel,by decide+kernel,by decide,by decide,by decide,by decide,by decide+kernel,by decide+kernel,by decide+kernel⟩
def oi(w:aN)(b:Nat)(xs:List (List UInt8)):Prop:=b < w.heap.size/\ ∀j (a:j < xs.length),w.cell? ⟨b,0+j,none⟩=some (.string (N6 xs[j]))
theorem oi.ext{w c:aN}{b:Nat}{a:List (List UInt8)}(h:oi w b a)(d:Ext w c):oi c b a:=⟨Nat.lt_of_lt_of_le h.1 d.size,fun j e=> d.cell (h.2 j e)⟩
theorem oi.of{w:aN}{b:Nat}{xs:List (List UInt8)}{e:TypeId}(h:w.heap[b]? =some (.cells (xs.map fun x=> jY (N6 x)).toArray e (0,0))):oi w b xs:=
 ⟨D1 h,fun j a=> by rw[Nat.zero_add,E1 h];simp[a]⟩
theorem Qx(p:List (List UInt8)×List (List UInt8))(i:p∈j84)(w:aN)(e:TypeId): ∃g f q,Ending.returned (Value.tuple #[.slice (some ⟨w.heap.size,0,none⟩) p.1.length p.1.length,.slice (some ⟨w.heap.size+1,0,none⟩) p.2.length p.2.length])= .returned (.tuple #[.slice (some ⟨g,0,none⟩) (Prod.fst q).length q.1.length,.slice (some ⟨f,0,none⟩) q.2.length q.2.length])/\q∈j84/\oi ((w.alloc (.cells (p.1.map fun x=> jY (N6 x)).toArray e)).alloc (.cells (p.2.map fun x=> jY (N6 x)).toArray e)) g q.1/\oi ((w.alloc (.cells (p.1.map fun x=> jY (N6 x)).toArray e)).alloc (.cells (p.2.map fun x=> jY (N6 x)).toArray e)) f q.2/\Ext w ((w.alloc (.cells (p.1.map fun x=> jY (N6 x)).toArray e)).alloc (.cells (p.2.map fun x=> jY (N6 x)).toArray e)):=by
 obtain⟨c,d,-,hx⟩:=box2 (w:=w) (a:= .cells (p.1.map fun x=> jY (N6 x)).toArray e) (b:= .cells (p.2.map fun x=> jY (N6 x)).toArray e) rfl;exact⟨_,_,p,rfl,i,oi.of c,oi.of d,hx⟩
theorem PD(k:Int)(w:aN):Calls prog 110 #[j0 k] w fun e a=> ∃d c p,e= .returned (.tuple #[.slice (some ⟨d,0,none⟩) (Prod.fst p).length p.1.length,.slice (some ⟨c,0,none⟩) p.2.length p.2.length])/\p∈j84/\oi a d p.1/\oi a c p.2/\Ext w a:=by
 have H:=hdq fun p i=> Qx p i w 9
 by_cases g:k=0
 · subst g
   go_enter func110,ntmps110;go_wp2_with fail;go_ret2;exact H.out (pD,LC) (by simp[j84])
 have m:(k==0)=false:=beq_eq_false_iff_ne.2 g;by_cases f:k=1
 · subst f
   go_enter func110,ntmps110;go_wp2_with fail;go_ret2;exact H.out (TA,XE) (by simp[j84])
 have j:(k==1)=false:=beq_eq_false_iff_ne.2 f;by_cases b:k=2
 · subst b
   go_enter func110,ntmps110;go_wp2_with fail;go_ret2;exact H.out (pE,wF) (by simp[j84])
 have l:(k==2)=false:=beq_eq_false_iff_ne.2 b;go_enter func110,ntmps110;go_wp2_with fail;go_ret2;exact H.out (VB,tC) (by simp[j84])
theorem mA(a:List (List UInt8))(b:Nat)(w:aN)(hx:oi w b a)(hn:a.length<=12)(p: ∀x∈a,x.length<=1000):
 Calls prog 98 #[.slice (some ⟨b,0,none⟩) a.length a.length] w fun e M=> ∃A c,e= .returned (.slice A (Ub a).length c)/\((Ub a).length<=c/\c<=maxLen/\(A=none->c=0))/\Tc w.heap.size M A (Ub a)/\Ext w M:=by
 have HN:=hdq hx;have zq:=hdq p;obtain⟨N,D⟩: ∃N,a.length=N:=⟨_,rfl⟩;rw[D] at hn⊢;have K:=hdq D;obtain⟨R,C⟩: ∃R,Ub a=R:=⟨_,rfl⟩;rw[C];have HR:=hdq C;clear p D C hx;go_enter func98,ntmps98;go_wp2_with fail;have H:=ec.lit (xr w);have k:=(xr w).alloc (.cells #[] 25);generalize w.alloc _=w0 at k H⊢
 go_loopw [3,4] (fun Y i wr=> ∃(v:aU) (j:Nat) (f:List Tr),v=Y/\j<=N/\i= .int .i64 j/\ec w wr v f/\f.length<=j/\Hid (f++Ub (a.drop j)=R)/\Ext w wr) (fun _ i _=> N -(intOf i).toNat)
 case atStart=> exact⟨_,0, [],rfl,Nat.zero_le _,rfl,H,Nat.le_refl _,hdq (by simpa using HR.out),k⟩
 case round=>
  obtain⟨v,j,f,rfl,hj,rfl,hG,hkj,G,hx⟩:=hrel;clear H k;by_cases z:j < N
  · have vx:(j:Int) <(N:Int):=by omega
    have s:j < a.length:=by rw[K.out];exact z
    have d:=wG s;have O:=hx.cell (HN.out.2 j s);rw[Nat.zero_add] at O;obtain⟨x,y⟩: ∃x,x=a[j]:=⟨_,rfl⟩;have U:(N6 x).size<=1000000000:=by have:=zq.out _ (List.getElem_mem s);rw[zv,y];omega
    rw[<-y] at d O;have r:=hdq (fun W=> yG (N6 x) W U);rw[bD] at r;generalize bd x=L at r d;have q:=hdq d;clear d y s;go_wp2_with fail;refine(r.out _).mono ?_;rintro e I ⟨u,rfl,hF,Z⟩;obtain⟨o,l,m,n,g,rfl⟩:=hF.three;have E:=Z.alloc (.cells #[.int .i64 o,.int .i64 l,.slice m n g] 25);obtain⟨s0,s1,T,-⟩:=own3 (aT I (.cells #[.int .i64 o,.int .i64 l,.slice m n g] 25));clear r;cases L with
    |none=>
     have B:=hdq (show f++Ub (a.drop (j+1))=R by rw[<-G.out,q.out];simp);have rk:=hG.ext E;clear s0 s1 T;go_wp2_with fail
     go_roundw
     case rel=> exact⟨_,j+1,f,rfl,by omega,by go_num,rk,by omega,B,hx.trans E⟩
     case measure=> simp[intOf];omega
    |some t=>
     have B:=hdq (show(f++ [t])++Ub (a.drop (j+1))=R by rw[<-G.out,q.out];simp);have P:=E.alloc (.cells #[.int .i64 o,.int .i64 l,.slice m n g] 25);have hT:=(hF.ext ((xr I).alloc (.cells #[.int .i64 o,.int .i64 l,.slice m n g] 25))).ext ((xr _).alloc (.cells #[.int .i64 o,.int .i64 l,.slice m n g] 25));have Q:=aT (I.alloc (.cells #[.int .i64 o,.int .i64 l,.slice m n g] 25)) (.cells #[.int .i64 o,.int .i64 l,.slice m n g] 25);rw[World.size_alloc] at Q;have S:=hx.trans P;go_wp2_with (at_builtin;refine pJ (.tmp 23) (.tmp 25) hG P hx hT (by omega) rfl rfl rfl rfl Q ?_)
     intro A c w6 tz ml;go_wp2_with fail
     go_roundw
     case rel=> exact⟨_,j+1,f++ [t],rfl,by omega,by go_num,tz,by simp;omega,B,Below.trans S ml⟩
     case measure=> simp[intOf];omega
  · have J:f=R:=by
     rw[<-G.out,List.drop_of_length_le (by rw[K.out];omega)];simp[Ub]
    obtain⟨A,c,rfl,V,q2,X,hK⟩:=hG.row;have F:=hdq J;clear J;go_wp2_with fail;go_ret;rw[<-F.out];exact⟨A,c,rfl,⟨V,q2,X⟩,hK,hx⟩
end Go.Proofs.YtckhbnmfnpolgaaGreat
namespace Go.Proofs.YtckhbnmfnpolgaaGreat
open Go.RowKit
attribute [local go_sem ↓] Go.wp_at_zero Go.wp_at_succ
theorem QH(s:Tr)(c:Int)(d:aN)(N:Nat->Prop)(hN: ∀b,d.heap.size<=b->N b)(v:aU)(z:Lies d s v)(hv:c=0->valid sigT s=true)(r:Tr×Int)(w:c=0->r=(s,0))(y:c≠0->r=(D2,c)):Calls prog 90 #[v,j0 c] d (n9 N d r):=by
 have g:=hdq (fun(h:c=0) W (L:Ext d W)=> Sf s W v (z.ext L) (by have:=(N4 (hv h)).2;omega));obtain⟨k,n,E⟩:=s;obtain⟨At,ct,rfl,-⟩:=Lies.mk_iff.1 z;clear z hv;by_cases a:c=0
 case neg=>
  obtain rfl:=y a;have t1:(c !=0)=true:=by simp[a]
  clear a w y g;obtain⟨l,f,D⟩:=blk2 (xr ((d.alloc (D0 k n At E.length ct)).alloc M0));obtain⟨j,m,q,F,T,Q⟩:=own3 f;clear l D f;go_enter func90,ntmps90;go_wp2_with fail;refine aQ (v:= .tuple #[m0 0 0 none 0 0,j0 c]) (by simp[aS,results90,go_sem,j,m,q]) rfl ⟨_,rfl,Z5 _ _ _ _,((xr _).alloc _).alloc _⟩
 subst a;obtain rfl:=w rfl;clear w y;obtain⟨B,i⟩: ∃x,x=((d.alloc (D0 k n At E.length ct)).alloc M0):=⟨_,rfl⟩;obtain⟨l,f,D,t⟩:=box2 i;obtain⟨M,p⟩: ∃M,M=(fun b=> N b/\b≠d.heap.size+1):=⟨_,rfl⟩;have U:=hdq (show∀b,B.heap.size<=b->M b by rw[p];exact Va hN t.size (by omega));have J:=hdq p;clear p hN;go_enter func90,ntmps90;go_wp2_with fail;rw[<-i];clear i;refine(g.out (by first|rfl|trivial) B t).mono ?_;rintro e V ⟨u,rfl,C,o⟩;have Y:=o.size;have hT:=C.at' U.out;clear C g;obtain⟨X,R,I,O,P,rfl⟩:=hT.three;have K:=hdq hT;clear hT;have A:=o;have Z:=cb3 (A.blk l);have S:=Ca (A.blk f);have G:=t;have H:=G.trans o;go_wp2_with fail;refine aQ (v:= .tuple #[m0 X R I O P,j0 0]) (by simp[aS,results90,go_sem,S]) rfl ⟨_,rfl,InT.ret (J.out▸(K.out.later (xr V))) _ _ _,(H.set3 (by omega) _ _ _)⟩
def pc(f:Nat)(ctx:List Tr)(t:Tr):An:=if Qc ctx=false\/valid sigT t=false then some (D2,3) else thn (Ry f ctx) fun _=> thn (O0 f ctx t) fun s=> some (s,0)
theorem nk{w:aN}{A:Option Addr}{ca:Nat}{G:List Tr}(hl:G.length<=ca)(hc:ca<=maxLen)(hK:V8 w A G)(hA:A=none->ca=0)(h8:G.length<=8/\ ∀x∈G,valid sigT x=true):SJ w AllN A G ca:=
 ⟨fun _ _=> trivial,hl,hc,InK.all hK,by omega,hA,h8.2⟩
theorem wL(f:Nat)(G:List Tr)(A:Option Addr)(ca:Nat)(j:aN)(hK:V8 j A G)(hl:G.length<=ca)(g:ca<=maxLen)(hA:A=none->ca=0)(t:Tr)(v:aU)(P:Lies j t v)(N:Nat->Prop)(hN: ∀b,j.heap.size<=b->N b)(r:Tr×Int)(h:pc f G t=some r):Calls prog 44 #[.slice A G.length ca,v] j (n9 N j r):=by
 have Bj:=hdq (fun W (l:Ext j W)=> gC G W A ca (hK.ext l) hl g);have il:=hdq (fun W (l:Ext j W)=> rj t W v (P.ext l));have Z:=hdq (fun W (l:Ext j W) r0 h0=> pH f G W A ca (hK.ext l) hl g r0 h0);have C:=hdq (fun W (l:Ext j W) (h8:Qc G=true) q J=> Tp f G t q J W AllN A ca v (nk hl g (hK.ext l) hA (KC h8)) (InT.all (P.ext l)));have HL:=hdq hl;have yy:=hdq g;obtain⟨z,T⟩: ∃z,Qc G=z:=⟨_,rfl⟩;obtain⟨za,au⟩: ∃z,valid sigT t=z:=⟨_,rfl⟩;unfold pc at h;rw[T,au] at h;rw[T] at Bj C;rw[au] at il;obtain⟨k,n,ks⟩:=t;obtain⟨At,ct,rfl,-⟩:=Lies.mk_iff.1 P;clear P hK T au hl g hA;obtain⟨w1,S⟩: ∃x,x=((j.alloc (D0 k n At ks.length ct)).alloc M0):=⟨_,rfl⟩;obtain⟨o,m,s1,K⟩:=box2 S;obtain⟨M,U⟩: ∃M,M=(fun b=> N b/\b≠j.heap.size+1):=⟨_,rfl⟩;have O6:=hdq (show∀b,w1.heap.size<=b->M b by rw[U];exact Va hN K.size (by omega));have HM:=hdq U;clear U hN;go_enter func44,ntmps44;go_wp2_with fail;rw[<-S];clear S;refine(Bj.out w1 K).mono ?_;rintro e w2 ⟨rfl,H⟩;have s2:=H.size;cases z with
 |false=>
  obtain rfl:r=(D2,3):=by simpa using h.symm
  clear h;have w:=H;have i:=cb3 (w.blk o);have a:=Ca (w.blk m);have j8:=K;have F:=j8.trans H;go_wp2_with fail;refine aQ (v:= .tuple #[m0 0 0 none 0 0,j0 3]) (by simp[aS,results44,go_sem,a]) rfl ⟨_,rfl,Z5 _ _ 0 0,(F.set3 (by omega) _ _ _)⟩
 |true=>
  have w:=H;have i:=cb3 (w.blk o);have a:=Ca (w.blk m);go_wp2_with fail;clear i a;have j8:=K;have F:=j8.trans H;refine(il.out w2 F).mono ?_;rintro e w3 ⟨rfl,B⟩;have s3:=B.size;cases za with
  |false=>
   obtain rfl:r=(D2,3):=by simpa using h.symm
   clear h;have p:=w.trans B;have i:=cb3 (p.blk o);have a:=Ca (p.blk m);have I:=F.trans B;go_wp2_with fail;refine aQ (v:= .tuple #[m0 0 0 none 0 0,j0 3]) (by simp[aS,results44,go_sem,a]) rfl ⟨_,rfl,Z5 _ _ 0 0,(I.set3 (by omega) _ _ _)⟩
  |true=>
   rw[if_neg (by simp)] at h;obtain⟨s0,c,h1,h2,h3⟩:=we h;clear h;have H1:=hdq h1;have H2:=hdq h2;have Y:=hdq h3;clear h1 h2 h3;have p:=w.trans B;have i:=cb3 (p.blk o);have a:=Ca (p.blk m);go_wp2_with fail;clear i a;have I:=F.trans B;refine(Z.out w3 I _ H1.out).mono ?_;rintro e w4 ⟨rfl,E⟩;have s4:=E.size;simp only;by_cases d:c=0
   case neg=>
    obtain rfl:=Y.out d;have t1:(c !=0)=true:=by simp[d]
    have t2:(c==0)=false:=by simp[d]
    clear d Y;have y:=p.trans E;have i:=cb3 (y.blk o);have a:=Ca (y.blk m);have L:=I.trans E;go_wp2_with fail;refine aQ (v:= .tuple #[m0 0 0 none 0 0,j0 c]) (by simp[aS,results44,go_sem,a]) rfl ⟨_,rfl,Z5 _ _ 0 0,(L.set3 (by omega) _ _ _)⟩
   have J:=H2.out d;subst d;clear H2 Y;obtain⟨s,c,g1,g2,g3⟩:=we J;clear H1 J;have G1:=hdq g1;have G2:=hdq g2;have G3:=hdq g3;clear g1 g2 g3;have y:=p.trans E;have i:=cb3 (y.blk o);have a:=Ca (y.blk m);go_wp2_with fail;clear i a;have L:=I.trans E;refine(C.out w4 L (by first|rfl|trivial) _ G1.out).mono ?_;rintro e D ⟨u,rfl,hT,V⟩;have s5:=V.size;obtain⟨a1,a2,a3,a4,a5,rfl⟩:=hT.three;have Ta:=hdq hT;clear hT;simp only;have X:=y.trans V;have i:=cb3 (X.blk o);have a:=Ca (X.blk m);obtain⟨R,Q⟩: ∃x,x=D.alloc (D0 a1 a2 a3 a4 a5):=⟨_,rfl⟩;have e6:Ext D R:=Q▸(xr D).alloc _;have yl:=aT D (D0 a1 a2 a3 a4 a5);rw[<-Q] at yl;have s6:D.heap.size < R.heap.size:=D1 yl;go_wp2_with fail;rw[<-Q];clear Q;clear i a;have cr:=X.trans e6;have fz:=e6;refine(QH s c R M (fun b hb=> O6.out b (Nat.le_trans cr.size hb)) _ (Ta.out.later fz).lies' (fun hc=> GK (hc▸G1.out)) r (fun hc=> by simpa using(G2.out hc).symm) G3.out).mono ?_;rintro e w7 ⟨u,rfl,hT,O⟩;have s7:=O.size;obtain⟨b1,b2,b3,b4,b5,rfl⟩:=hT.three;have Tb:=hdq hT;clear hT;have Db:=cr.trans O;have i:=cb3 (Db.blk o);have a:=Ca (Db.blk m);have Lg:=O;have Zo:=cb3 (Lg.blk yl);have M4:=L.trans V;have fu:=M4.trans e6;have qa:=fu.trans O;go_wp2_with fail;refine aQ (v:= .tuple #[m0 b1 b2 b3 b4 b5,j0 r.2]) (by simp[aS,results44,go_sem,a]) rfl ⟨_,rfl,InT.ret (HM.out▸(Tb.out.later (xr w7))) _ _ _,(qa.set3 (by omega) _ _ _)⟩
theorem DJ{w:aN}{g:Nat}{e:TypeId}{t:Tr}{v0 v1 v2:aU}(a:w.heap[g]? =some (.cells #[v0,v1,v2] e (0,0)))(h:Lies w t (.agg #[v0,v1,v2])):V8 w (some ⟨g,0,none⟩) [t]:=
 .inr ⟨g,0,rfl,D1 a,⟨⟨v0,v1,v2,E1 a 0,E1 a 1,E1 a 2,h⟩,trivial⟩⟩
theorem WJ{w:aN}{g:Nat}{e:TypeId}{t u:Tr}{v0 v1 v2 c d b:aU}(a:w.heap[g]? =some (.cells #[v0,v1,v2,c,d,b] e (0,0)))(h:Lies w t (.agg #[v0,v1,v2]))(k:Lies w u (.agg #[c,d,b])):V8 w (some ⟨g,0,none⟩) [t,u]:=
 .inr ⟨g,0,rfl,D1 a,⟨⟨v0,v1,v2,E1 a 0,E1 a 1,E1 a 2,h⟩,⟨c,d,b,E1 a 3,E1 a 4,E1 a 5,k⟩,trivial⟩⟩
theorem TB{f:Nat}{ctx l:List Tr}{u:Tr}(h:Xa f ctx l=some (u,0)):Qc ctx=true:=by
 have:=(Rm h).1;unfold ccV at this
 split at this
 · assumption
 · simp at this
theorem cL(f:Nat)(ctx:List Tr)(A:Option Addr)(ca:Nat)(o:aN)(hG:V8 o A ctx)(F8:ctx.length<=ca)(E:ca<=maxLen)(t:Tr)(v:aU)(ht:Lies o t v)(N:Nat->Prop)(hN: ∀b,o.heap.size<=b->N b)(r:Tr×Int)(h:Ra f ctx t=some r):Calls prog 21 #[.slice A ctx.length ca,v] o (n9 N o r):=by
 have HN:=hdq hN;clear hN;obtain⟨q1,c,h1,h2,h3⟩:=we h;obtain⟨k,n,I⟩:=t;obtain⟨At,ct,rfl,hl,l9,hK⟩:=Lies.mk_iff.1 ht;have HT:=hdq ht;have HG:=hdq hG;have H:=hdq h1;have H2:=hdq h2;have Z:=hdq h3;have Bt:=hdq F8;have yy:=hdq E;clear h h1 h2 h3 ht hK hG F8 E;obtain⟨T,P⟩: ∃x,x=(((o.alloc (D0 k n At I.length ct)).alloc M0).alloc (D0 k n At I.length ct)):=⟨_,rfl⟩;obtain⟨F,z,B,s1,D⟩:=be P;obtain⟨M,U⟩: ∃M,M=(fun b=> N b/\b≠o.heap.size+1):=⟨_,rfl⟩;have O6:=hdq (show∀b,T.heap.size<=b->M b from U▸Va HN.out D.size (by omega));have HM:=hdq U;clear U;go_enter func21,ntmps21;go_wp2_with fail;rw[<-P];clear P;refine(nE f ctx T A ca (HG.out.ext D) Bt.out yy.out [.mk k n I] _ 1 (DJ B (HT.out.ext D)) (Nat.le_refl _) (by decide) _ H.out).mono ?_;rintro e w2 ⟨rfl,G⟩;have s2:=G.size;simp only;by_cases i:c=0
 case neg=>
  obtain rfl:=Z.out i;have t1:(c !=0)=true:=by simp[i]
  clear i H H2 Z;have a:=G;have p:=cb3 (a.blk F);have j:=Ca (a.blk z);have y:=cb3 (a.blk B);have j8:=D;have q:=j8.trans G;go_wp2_with fail;refine aQ (v:= .tuple #[m0 0 0 none 0 0,j0 c]) (by simp[aS,results21,go_sem,j]) rfl ⟨_,rfl,Z5 _ _ 0 0,(q.set3 (by omega) _ _ _)⟩
 subst i;obtain⟨s,d,h4,h5,h6⟩:=we (H2.out rfl);have L:=hdq h4;have S:=hdq h5;have X:=hdq h6;clear h4 h5 h6;have HF:=hdq (et (TB H.out));have HV:=hdq ((Rm H.out).2 (.mk k n I) (by simp));have jo:=hdq (ov (f:=f) (w:=T) (A:=A) Bt.out yy.out HF.out.2 (by have:=HF.out.1;omega));clear H H2 Z;have a:=G;have p:=cb3 (a.blk F);have j:=Ca (a.blk z);have y:=cb3 (a.blk B);go_wp2_with fail;clear p j y;have j8:=D;have q:=j8.trans G;refine(jo.out w2 AllN a (fun _ _=> trivial) (InK.all (HG.out.ext q)) _ _ (InT.all (HT.out.ext q)) HV.out _ L.out).mono ?_;rintro e m ⟨u,rfl,hT,C⟩;have s3:=C.size;simp only at hT⊢;obtain⟨a1,b1,Q,R,Y,rfl⟩:=hT.three;have T1:=hdq hT.lies';clear hT;by_cases J:d=0
 case neg=>
  obtain rfl:=X.out J;have t1:(d !=0)=true:=by simp[J]
  clear J L S X;have g:=a.trans C;have p:=cb3 (g.blk F);have j:=cbn (g.blk z);have y:=cb3 (g.blk B);have rh:Ext m (m.alloc (D0 a1 b1 Q R Y)):=(xr m).alloc _;have o6:=q.trans C;have Pr:=cbn (rh.blk (g.blk z));go_wp2_with fail;refine aQ (v:= .tuple #[m0 0 0 none 0 0,j0 d]) (by simp[aS,results21,go_sem,j,Pr]) rfl ⟨_,rfl,Z5 _ _ 0 0,((o6.trans rh).set3 (by omega) _ _ _)⟩
 subst J;obtain rfl:(s,(0:Int))=r:=by simpa using S.out rfl
 have Gp:=hdq (LI HV.out L.out);clear L S X;have g:=a.trans C;have p:=cb3 (g.blk F);have j:=Ca (g.blk z);have y:=cb3 (g.blk B);obtain⟨w4,l⟩: ∃x,x=m.alloc (D0 a1 b1 Q R Y):=⟨_,rfl⟩;have V:Ext m w4:=l▸(xr m).alloc _;have Z8:=aT m (D0 a1 b1 Q R Y);rw[<-l] at Z8;have s4:m.heap.size < w4.heap.size:=D1 Z8;go_wp2_with fail;rw[<-l];clear l;clear p j y;have U6:=V;refine(Oi s w4 _ (T1.out.ext U6) (by have:=(N4 Gp.out).2;omega)).mono ?_;rintro e w5 ⟨u,rfl,O,K⟩;have s5:=K.size;have p5:=g.trans V;obtain⟨a2,b2,A2,l2,c2,rfl⟩:=O.three;have T2:=hdq (O.at' (N:=M) (fun b hb=> O6.out b (by have:=p5.size;omega)));clear O;have W:=p5.trans K;have p:=cb3 (W.blk F);have j:=Ca (W.blk z);have y:=cb3 (W.blk B);have U3:=K;have Zx:=cb3 (U3.blk Z8);have o6:=q.trans C;have s9:=o6.trans V;have M4:=s9.trans K;go_wp2_with fail;refine aQ (v:= .tuple #[m0 a2 b2 A2 l2 c2,j0 0]) (by simp[aS,results21,go_sem,j]) rfl ⟨_,rfl,InT.ret (HM.out▸T2.out) _ _ _,(M4.set3 (by omega) _ _ _)⟩
theorem uI(f:Nat)(ctx:List Tr)(A:Option Addr)(ca:Nat)(p:aN)(hG:V8 p A ctx)(F8:ctx.length<=ca)(C:ca<=maxLen)(t:Tr)(v:aU)(ht:Lies p t v)(a:Tr)(vw:aU)(Q:Lies p a vw)(r:Tr×Int)(h:Ys f ctx t a=some r):Calls prog 16 #[.slice A ctx.length ca,v,vw] p fun e w'=> e= .returned (j0 r.2)/\Ext p w':=by
 obtain⟨q1,c,h1,h2,Y⟩:=we h;obtain⟨k,n,H⟩:=t;obtain⟨At,ct,rfl,hl,l9,hK⟩:=Lies.mk_iff.1 ht;have HT:=hdq ht;have T:=hdq hG;have y:=hdq h1;have U:=hdq h2;have R:=hdq Y;have Bt:=hdq F8;have yy:=hdq C;clear h h1 h2 Y ht hK hG F8 C;obtain⟨K,G,J⟩:=a;obtain⟨A8,c8,rfl,hl8,hc8,Ha⟩:=Lies.mk_iff.1 Q;have W:=hdq Q;clear Q Ha;obtain⟨w1,L⟩: ∃x,x=(((p.alloc (D0 k n At H.length ct)).alloc (D0 K G A8 J.length c8)).alloc (.cells #[j0 k,j0 n,.slice At H.length ct,j0 K,j0 G,.slice A8 J.length c8] 25)):=⟨_,rfl⟩;obtain⟨D,F,u,s1,B⟩:=be L;go_enter func16,ntmps16;go_wp2_with fail;rw[<-L];clear L;refine(nE f ctx w1 A ca (T.out.ext B) Bt.out yy.out [.mk k n H,.mk K G J] _ 2 (WJ u (HT.out.ext B) (W.out.ext B)) (Nat.le_refl _) (by decide) _ y.out).mono ?_;rintro e w2 ⟨rfl,E⟩;have s2:=E.size;simp only;by_cases i:c=0
 case neg=>
  obtain rfl:=R.out i;have t1:(c !=0)=true:=by simp[i]
  clear i y U R;have V:=B;have j:=V.trans E;have b:=E;have o:=cb3 (b.blk D);have m:=cb3 (b.blk F);have q:=ZE (b.blk u);go_wp2_with fail;go_ret
  first|exact⟨rfl,j⟩ |exact j
 subst i;obtain⟨s,d,Z,h5,h6⟩:=we (U.out rfl);have S:=hdq Z;have N:=hdq h5;have P:=hdq h6;clear Z h5 h6;have HF:=hdq (et (TB y.out));have HV:=hdq ((Rm y.out).2 (.mk k n H) (by simp));have jo:=hdq (ov (f:=f) (w:=w1) (A:=A) Bt.out yy.out HF.out.2 (by have:=HF.out.1;omega));have M:=hdq ((Rm y.out).2 (.mk K G J) (by simp));clear y U R;have b:=E;have o:=cb3 (b.blk D);have m:=cb3 (b.blk F);have q:=ZE (b.blk u);go_wp2_with fail;clear o m q;have V:=B;have j:=V.trans E;refine(zz jo.out w2 AllN b (fun _ _=> trivial) (InK.all (T.out.ext j)) _ _ (InT.all (W.out.ext j)) M.out _ S.out).mono ?_;rintro e w3 ⟨rfl,z⟩;have s3:=z.size;simp only;by_cases I:d=0
 case neg=>
  obtain rfl:=P.out I;have t1:(d !=0)=true:=by simp[I]
  clear I S N P;have l:=j.trans z;have g:=b.trans z;have o:=cb3 (g.blk D);have m:=cb3 (g.blk F);have q:=ZE (g.blk u);go_wp2_with fail;go_ret
  first|exact⟨rfl,l⟩ |exact l
 subst I;obtain⟨d,h7,h8,h9⟩:=Pv (N.out rfl);have H7:=hdq h7;obtain rfl:r.2=d:=by
  by_cases hd:d=0
  · obtain rfl:(D2,(0:Int))=r:=by simpa using h8 hd
    exact hd.symm
  · rw[h9 hd]
 clear h7 h8 h9 S N P;have g:=b.trans z;have o:=cb3 (g.blk D);have m:=cb3 (g.blk F);have q:=ZE (g.blk u);go_wp2_with fail;clear o m q;have l:=j.trans z;refine(kJ jo.out w3 g (T.out.ext l) _ _ (HT.out.ext l) HV.out _ _ (W.out.ext l) _ H7.out).mono ?_;rintro e w4 ⟨rfl,O⟩;have s4:=O.size;have s9:=l.trans O;have X:=g.trans O;have o:=cb3 (X.blk D);have m:=cb3 (X.blk F);have q:=ZE (X.blk u);go_wp2_with fail;go_ret
 first|exact⟨rfl,s9⟩ |exact s9
end Go.Proofs.YtckhbnmfnpolgaaGreat
namespace Go.Proofs.YtckhbnmfnpolgaaGreat
open Go.RowKit
open M (Hd HR Cv Ty j2 rc a7 O5 dep DG fvb)
def SD:List Tr->Prop
 | []=> True
 |t::ts=>(∀A,t=enc A->dep A<=4)/\(ts≠ []-> ∀A,t=enc A->dep A<=3)/\SD ts
theorem Ru(f a:Nat): ∀(ts:List Tr) (G:List M.Tm),y6 G->DG G 3->G.length+ts.length<=8->(∀t∈ts,valid sigT t=true)->SD ts->Rl False (ccRS f (ctxE G) ts) (ccR a (ctxE G) ts)
 | [],G,_,_,_,_,_=> Rl.rfl' _
 |t::ts,G,hG,c,hl,hv,hs=> by
  obtain⟨A,rfl⟩:=Dm (hv t (by simp));simp only[bX] at hl;have d:=hs.1 A rfl;have ag:=ZF A G hG c d (by omega) (hv _ (by simp));refine((ag f a).frm 2).seq fun s g e=> ?_
  obtain⟨S,i,-,-,-,-,b,-⟩:=pe (snd a) hG (hv _ (by simp)) e;rw[<-de];by_cases ht:ts= []
  · subst ht;exact Rl.rfl' _
  · exact Ru f a ts (A::G) (hG.cons b (hv _ (by simp))) (c.cons (hs.2.1 ht A rfl)) (by simp only[bX];omega) (fun x hx=> hv x (by simp[hx])) hs.2.2
theorem Vt{f b:Nat}{ctx:List Tr}{t:Tr}(hs:SD ctx)(i: ∀G a,ctx=ctxE G->t=enc a->y6 G->G.length<=8->valid sigT t=true->Ag G a):Rl False (pc f ctx t) (Ra b ctx t):=by
 unfold pc Ra;by_cases hf:Qc ctx=true
 · obtain⟨h8,hv⟩:=et hf
   have c:=Ru f b ctx [] y6.nil M.DG.nil (by simpa using h8) hv hs;have k:Ry f ctx=ccRS f (ctxE []) ctx:=by unfold Ry;rw[if_pos hf];rfl
   have d:ccV b ctx=ccR b (ctxE []) ctx:=by unfold ccV;rw[if_pos hf];rfl
   by_cases ht:valid sigT t=true
   · rw[if_neg (by simp[hf,ht])]
     have g:Xa b ctx [t]=ccV b ctx:=by
      unfold Xa;cases ccV b ctx with
      |none=> rfl
      |some r=> simp[ht]
     rw[g,k];rw[<-d] at c;refine c.seq fun s l j=> ?_
     obtain⟨G,rfl,hG,hl⟩:=fy j;obtain⟨a,rfl⟩:=Dm ht;exact(i G a rfl rfl hG hl ht f b).seq fun s _ _=> Rl.rfl' _
   · rw[if_pos (.inr (by simpa using ht))]
     unfold Xa;cases h:ccV b ctx with
     |none=> exact Rl.no' _
     |some r=> simp[ht,thn];exact Rl.rfl' _
 · have e:Qc ctx=false:=by simpa using hf
   rw[if_pos (.inl e)];unfold Xa;have d:ccV b ctx=some (D2,3):=by unfold ccV;rw[if_neg hf]
   rw[d];by_cases ht:valid sigT t=true <;> simp[ht,thn] <;> exact Rl.rfl' _
theorem SD.mem: ∀{ts:List Tr},SD ts-> ∀A,enc A∈ts->dep A<=4
 | [],_,A,h=> by simp at h
 |t::ts,h,A,hm=> by
  rcases List.mem_cons.1 hm with e|hm
  · exact h.1 A e.symm
  · exact SD.mem h.2.2 A hm
theorem SD.dg{G:List M.Tm}(h:SD (ctxE G)):DG G 4:=fun A hA=> h.mem A (by unfold ctxE;rw[List.mem_reverse];exact List.mem_map_of_mem hA)
theorem SD.of{G:List M.Tm}(h:DG G 3):SD (ctxE G):=by
 have: ∀ts:List Tr,(∀A,enc A∈ts->dep A<=3)->SD ts:=by
  intro ts
  induction ts with
  |nil=> exact fun _=> trivial
  |cons t ts ih=> exact fun k=>⟨fun A e=> by have:=k A (by simp[e]);omega,fun _ A e=> k A (by simp[e]),ih fun A hA=> k A (by simp[hA])⟩
 refine this _ fun A hA=> ?_
 unfold ctxE at hA;rw[List.mem_reverse,List.mem_map] at hA;obtain⟨B,a,e⟩:=hA;rw[<-wd e];exact h B a
def Dr(G:List M.Tm)(a:M.Tm):Prop:=SG a\/(DG G 3/\(dep a<=4\/ ∃t i u,a=zp t i u/\SG t/\ef G t/\dep u<=4))
theorem j244{f f':Nat}{ctx:List Tr}{t:Tr}(hs:SD ctx)(hd: ∀G a,ctx=ctxE G->t=enc a->y6 G->valid sigT t=true->Dr G a):Rl False (pc f ctx t) (Ra f' ctx t):=
 Vt hs fun G a e c hG h8 hv=> by
  subst e c;rcases hd G a rfl rfl hG hv with h|⟨b,h|⟨t,i,u,rfl,h,g,d⟩⟩
  · exact Ov a G h hG hs.dg (by omega) hv
  · exact ZF a G hG b h (by omega) hv
  · exact jx hG b (by omega) _ (Qp h g d i) hv
theorem NC.side{n:Nat}{t:M.Tm}(h:NC n t){G:List M.Tm}(hn:NG n G)(hG:y6 G)(hv:valid sigT (enc t)=true):ef G t:=by
 cases h with
 |move d a=>
  obtain⟨T,b,-,c⟩:=a.ty hn;exact li.of hG (Z0 hv (by simp)) b c
 |_=> trivial
theorem Ux{G:List M.Tm}{t:M.Tm}(h:DC G t=true):y6 G/\G.length<=8/\valid sigT (enc t)=true/\ ∃A,Ty G t A/\j2 G t:=by
 unfold DC at h
 split at h
 · rename_i s c hc
   have:c=0:=by simpa using h
   subst this;obtain⟨g,a,A,d,hG,h8,e,hv,-,b,f,-⟩:=Nn hc;cases Wq d
   cases wd e
   exact⟨hG,h8,hv,A,b,f⟩
 · cases h
def el(G:List M.Tm):M.Tm->Bool
 | .pi A B=> decide (dep A<=3)
 | .lam A B=> decide (dep A<=3)
 | .sg A B=> decide (dep A<=3)
 | .move p e a=> DC G a
 | .pair T a b=> DC G b
 |_=> true
theorem In{G:List M.Tm}{t:M.Tm}(h:el G t=true):ef G t:=by
 cases t <;> simp only[el,decide_eq_true_eq] at h <;> simp only[ef] <;> try trivial
 case move p e a=>
  obtain⟨hG,-,hv,A,d,c⟩:=Ux h;exact li.of hG hv d c
 case pair T a b=>
  obtain⟨hG,-,hv,A,d,c⟩:=Ux h;exact li.of hG hv d c
theorem BK:(txts.all fun p=> p.2.all (el p.1))=true:=by decide+kernel
theorem Qk{G:List M.Tm}{l:List M.Tm}{t:M.Tm}(h:(G,l)∈txts)(ht:t∈l):SG t/\ef G t/\DG G 3/\y6 G/\valid sigT (enc t)=true/\ ∃A,Ty G t A/\j2 G t:=by
 have d:=List.all_eq_true.1 (List.all_eq_true.1 Vv _ h) t ht;have a:=List.all_eq_true.1 (List.all_eq_true.1 BK _ h) t ht;have b:=List.all_eq_true.1 (List.all_eq_true.1 Wu _ h) t ht;have c:=List.all_eq_true.1 Qv _ h;obtain⟨hG,-,hv,hA⟩:=Ux b;exact⟨ds d,In a,fun A hA=> by have:=List.all_eq_true.1 c A hA;simpa using this,hG,hv,hA⟩
