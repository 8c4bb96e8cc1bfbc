/- Lemmas towards the law. -/
import Derived.Test.YtckhbnmfnpolgaaGreatTAX
open Go renaming bodyPost_ret->aQ,results->aS
open Option.some renaming injEq->cM
open Prod.mk renaming injEq->cQ
open Go.Proofs.Tryz
set_option linter.all false
set_option maxHeartbeats 1000000
set_option maxRecDepth 100000
namespace Go.Proofs.YtckhbnmfnpolgaaGreat
open Go.RowKit
theorem Sn{t:Tr}(h:valid sigT t=true):mkV t=(t,0):=if_pos h
theorem nr{t:Tr}(h:valid sigT t=false):mkV t=(D2,2):=if_neg (by rw[h];decide)
theorem Np(t:Tr)(ok:Bool)(c:World)(N:Nat->Prop)(v:Value)(l:InT c N t v):Calls prog 103 #[v,.bool ok] c (n9 N c (if ok=true then mkV t else(D2,2))):=by
 have o:=hdq (fun W (B:Ext c W)=> Qo t W v (l.lies'.ext B));have u:=hdq l;obtain⟨z,d⟩: ∃z,valid sigT t=z:=⟨_,rfl⟩;rw[d] at o;obtain⟨k,n,s⟩:=t;obtain⟨A,cap,rfl,hl,hc,hK⟩:=InT.mk_iff.1 l;clear l;cases ok with
 |false=>
  rw[if_neg (by simp)];clear d;go_enter func103,ntmps103;go_wp2_with fail;exact aQ (v:= .tuple #[m0 0 0 none 0 0,j0 2]) (by simp[aS,results103,go_sem]) rfl ⟨_,rfl,Z5 _ _ 0 0,(((xr _).alloc _).alloc _)⟩
 |true=>
  rw[if_pos rfl];obtain⟨D,g⟩: ∃x,x=((c.alloc (D0 k n A s.length cap)).alloc M0):=⟨_,rfl⟩;obtain⟨r,q,E,j⟩:=box2 g;cases z with
  |false=>
   rw[nr d];clear d;go_enter func103,ntmps103;go_wp2_with fail;rw[<-g];clear g;refine(o.out _ j).mono ?_;rintro e C ⟨rfl,a⟩;have w:=a.size;have f:=a;have y:=cb3 (f.blk r);have p:=Ca (f.blk q);have m:=j;have i:=m.trans a;go_wp2_with fail;refine aQ (v:= .tuple #[m0 0 0 none 0 0,j0 2]) (by simp[aS,results103,go_sem,p]) rfl ⟨_,rfl,Z5 _ _ 0 0,(i.set3 (by omega) _ _ _)⟩
  |true=>
   rw[Sn d];clear d;go_enter func103,ntmps103;go_wp2_with fail;rw[<-g];clear g;refine(o.out _ j).mono ?_;rintro e C ⟨rfl,a⟩;have w:=a.size;have m:=j;have i:=m.trans a;have f:=a;have y:=cb3 (f.blk r);have p:=Ca (f.blk q);go_wp2_with fail;refine aQ (v:= .tuple #[m0 k n A s.length cap,j0 0]) (by simp[aS,results103,go_sem,p]) rfl ⟨_,rfl,InT.ret (InT.keep u.out i (show c.heap.size<=c.heap.size+1 from Nat.le_succ _)) _ _ _,(i.set3 (by omega) _ _ _)⟩
theorem RE(a b:Tr)(j:World)(s u:Value)(t:Lies j a s)(v:Lies j b u):Calls prog 80 #[s,u] j fun e E=> e= .returned (j0 (W3 a b))/\Ext j E:=by
 have r:=hdq (fun W (y:Ext j W)=> vJ a b 200 W s u (t.ext y) (v.ext y));obtain⟨c,g⟩: ∃c,ge a b 200=c:=⟨_,rfl⟩;rw[g] at r;have q:c=1->W3 a b=0:=fun h=> by unfold W3;rw[g,if_pos h]
 have p: ¬c=1->c=2->W3 a b=1:=fun h w=> by unfold W3;rw[g,if_neg h,if_pos w]
 have m: ¬c=1-> ¬c=2->W3 a b=2:=fun h w=> by unfold W3;rw[g,if_neg h,if_neg w]
 generalize W3 a b=R at q p m⊢;clear g;obtain⟨k,n,I⟩:=a;obtain⟨A,cap,rfl,hl,hc,hK⟩:=Lies.mk_iff.1 t;obtain⟨G,D,H⟩:=b;obtain⟨C,B,rfl,F,f,J⟩:=Lies.mk_iff.1 v;clear t v;obtain⟨K,i⟩: ∃x,x=((j.alloc (D0 k n A I.length cap)).alloc (D0 G D C H.length B)):=⟨_,rfl⟩;obtain⟨N,L,M,l⟩:=box2 i;by_cases d:c=1
 · obtain rfl:=q d
   clear q p m;subst d;go_enter func80,ntmps80;go_wp2_with fail;rw[<-i];clear i;refine(r.out _ l).mono ?_;rintro e z ⟨rfl,o⟩;go_wp2_with fail;go_ret;exact⟨rfl,(l.trans o)⟩
 have t1:(c==1)=false:=beq_eq_false_iff_ne.2 d;by_cases f:c=2
 · obtain rfl:=p d f
   clear q p m t1 d;subst f;go_enter func80,ntmps80;go_wp2_with fail;rw[<-i];clear i;refine(r.out _ l).mono ?_;rintro e z ⟨rfl,o⟩;go_wp2_with fail;go_ret;exact⟨rfl,(l.trans o)⟩
 have t2:(c==2)=false:=beq_eq_false_iff_ne.2 f;obtain rfl:=m d f;clear q p m d f;go_enter func80,ntmps80;go_wp2_with fail;rw[<-i];clear i;refine(r.out _ l).mono ?_;rintro e z ⟨rfl,o⟩;go_wp2_with fail;go_ret;exact⟨rfl,(l.trans o)⟩
theorem NE(t:Tr)(kind:Int)(o:World)(N:Nat->Prop)(hN: ∀b,o.heap.size<=b->N b)(v:Value)(U:Lies o t v):Calls prog 83 #[v,j0 kind] o (n9 N o (S4 t kind)):=by
 have M:=hdq (fun W (Z:Ext o W)=> uK t 200 W v (U.ext Z));have O:=hdq hN;obtain⟨⟨⟨d,u,p⟩,c⟩,E⟩: ∃q,b8 t 200=q:=⟨_,rfl⟩;rw[E] at M;have H: ¬c=0->S4 t kind=(D2,2):=fun h=> by unfold S4;rw[E,if_pos h]
 have L:c=0-> ¬d=kind->S4 t kind=(D2,1):=fun h P=> by unfold S4;rw[E,if_neg (by simpa using h)];exact if_pos P
 have D:c=0->d=kind->S4 t kind=(.mk d u p,0):=fun h P=> by unfold S4;rw[E,if_neg (by simpa using h)];exact if_neg (fun S=> S P)
 generalize S4 t kind=R at H L D⊢;clear hN E;obtain⟨k,n,ks⟩:=t;obtain⟨A,cap,rfl,hl,hc,hK⟩:=Lies.mk_iff.1 U;clear U;obtain⟨w1,y⟩: ∃x,x=((o.alloc (D0 k n A ks.length cap)).alloc M0):=⟨_,rfl⟩;obtain⟨T,B,s1,m⟩:=box2 y;by_cases a:c=0
 · by_cases hk:d=kind
   · obtain rfl:=D a hk
     subst a;subst hk;clear H L D;have t1:(d !=d)=false:=by simp
     go_enter func83,ntmps83;go_wp2_with fail;rw[<-y];clear y;refine(M.out _ m).mono ?_;rintro e f ⟨r,rfl,s,i⟩;have V:=i.size;have l:InT f (fun b=> N b/\b≠o.heap.size+1) (.mk d u p) r:=s.at' (Va O.out m.size (by omega));obtain⟨z,C,rfl,Y,I,j⟩:=InT.mk_iff.1 l;have Q:=hdq l;clear l s j;have g:=i;have X:=cb3 (g.blk T);have G:=cbn (g.blk B);have w:Ext f (f.alloc (D0 d u z p.length C)):=(xr f).alloc _;have K:=m;have F:=K.trans i;have J:=cbn (w.blk (g.blk B));go_wp2_with fail;refine aQ (v:= .tuple #[m0 d u z p.length C,j0 0]) (by simp[aS,results83,go_sem,G,J]) rfl ⟨_,rfl,InT.ret (InT.later Q.out ((xr _).alloc _)) _ _ _,((((F.trans w).setCell (by simp;try omega) _).setCell (by simp;try omega) _).setCell (by simp;try omega) _)⟩
   · obtain rfl:=L a hk
     subst a;clear H L D;have t1:(d !=kind)=true:=by simp[hk]
     clear hk;go_enter func83,ntmps83;go_wp2_with fail;rw[<-y];clear y;refine(M.out _ m).mono ?_;rintro e f ⟨r,rfl,s,i⟩;have V:=i.size;have l:InT f (fun b=> N b/\b≠o.heap.size+1) (.mk d u p) r:=s.at' (Va O.out m.size (by omega));obtain⟨z,C,rfl,Y,I,j⟩:=InT.mk_iff.1 l;have Q:=hdq l;clear l s j;have g:=i;have X:=cb3 (g.blk T);have G:=cbn (g.blk B);have w:Ext f (f.alloc (D0 d u z p.length C)):=(xr f).alloc _;have K:=m;have F:=K.trans i;have J:=cbn (w.blk (g.blk B));go_wp2_with fail;refine aQ (v:= .tuple #[m0 0 0 none 0 0,j0 1]) (by simp[aS,results83,go_sem,G,J]) rfl ⟨_,rfl,Z5 _ _ 0 0,((((F.trans w).setCell (by simp;try omega) _).setCell (by simp;try omega) _).setCell (by simp;try omega) _)⟩
 · obtain rfl:=H a
   clear H L D;have t1:(c !=0)=true:=by simp[a]
   clear a;go_enter func83,ntmps83;go_wp2_with fail;rw[<-y];clear y;refine(M.out _ m).mono ?_;rintro e f ⟨r,rfl,s,i⟩;have V:=i.size;have l:InT f (fun b=> N b/\b≠o.heap.size+1) (.mk d u p) r:=s.at' (Va O.out m.size (by omega));obtain⟨z,C,rfl,Y,I,j⟩:=InT.mk_iff.1 l;have Q:=hdq l;clear l s j;have g:=i;have X:=cb3 (g.blk T);have G:=cbn (g.blk B);have w:Ext f (f.alloc (D0 d u z p.length C)):=(xr f).alloc _;have K:=m;have F:=K.trans i;have J:=cbn (w.blk (g.blk B));go_wp2_with fail;refine aQ (v:= .tuple #[m0 0 0 none 0 0,j0 2]) (by simp[aS,results83,go_sem,G,J]) rfl ⟨_,rfl,Z5 _ _ 0 0,((((F.trans w).setCell (by simp;try omega) _).setCell (by simp;try omega) _).setCell (by simp;try omega) _)⟩
theorem Yq(n:Int)(w:World):Calls prog 140 #[j0 n] w fun e a=> e= .returned (m0 2 n none 0 0)/\Ext w a:=by
 go_enter func140,ntmps140;go_wp2_with fail;exact aQ (v:= m0 2 n none 0 0) (by simp[aS,results140,go_sem]) rfl ⟨rfl,(xr w).alloc _⟩
theorem RD(t:Tr)(c:World)(N:Nat->Prop)(v:Value)(B:InT c N t v):Calls prog 146 #[v] c fun e r=> ∃u,e= .returned u/\InT r N (kd t.kids 0) u/\Ext c r:=by
 obtain⟨k,n,a⟩:=t;obtain⟨A,cap,rfl,hl,hc,hK⟩:=InT.mk_iff.1 B;have i:=hc;unfold maxLen at i;have p:(Tr.mk k n a).kids=a:=rfl;rw[p];clear B p;by_cases f:a.length=0
 · have H:kd a 0=D2:=gk (by omega)
   rw[H];generalize a.length=len at f hl;subst f;go_enter func146,ntmps146;go_wp2_with fail;exact aQ (v:= m0 0 0 none 0 0) (by simp[aS,results146,go_sem]) rfl ⟨_,rfl,Z5 _ _ 0 0,(((xr _).alloc _).alloc _)⟩
 · have hx:=((xr c).alloc (D0 k n A a.length cap)).alloc M0
   obtain⟨b,o,y,q,E,G,q16,rfl,w,g,d,m,L,m1,C,s,F,M⟩:=hK.get (fun b _=> rfl) (j:=0) (by omega);simp only[Nat.zero_mul,Nat.add_zero] at g d m;have J:=hx.cell g;have O:=hx.cell d;have K:=hx.cell m;have x:kd a 0= .mk y q q16:=Pe (by omega) w.out;rw[x];have z:(0:Int) <(a.length:Int):=by omega
   have l:0 < a.length:=by omega
   have D:(((a.length:Int))==0)=false:=beq_eq_false_iff_ne.2 (by omega);have I:=hdq s;clear x w hK C s F f g d m;go_enter func146,ntmps146;go_wp2_with fail;refine aQ (v:= m0 y q E q16.length G) (by simp[aS,results146,go_sem]) rfl ⟨_,rfl,InT.later I.out ?_, ?_⟩
   all_goals exact(((xr _).alloc _).alloc _)
def Sa(a:List Tr->Tr->An)(G:List Tr)(k:Int)(c:List Tr)(i:Nat):An:=if T4 k i=0 then a G (kd c i) else a (G++ [kd c 0]) (kd c i)
def Wo(a:List Tr->Tr->An)(G:List Tr)(ty:Nat->An)(A:Tr):An:=thn (Q0 (ty 0) 2) fun _=> thn (ty 1) fun b=> thn (Q0 (a G A) 2) fun _=> thn (Q0 (a (G++ [A]) b) 2) fun _=> some (.mk 3 0 [A,b],0)
def Vm(ty:Nat->An)(a:Tr):An:=thn (Q0 (ty 0) 3) fun s=> E4 (ty 1) (kd s.kids 0) (some (X0 a (kd s.kids 1) 0 0,0))
def Xn(ty:Nat->An)(p a:Tr):An:=Ea (ty 0) L6 (E4 (ty 1) (.mk 5 0 [p,.mk 7 0 []]) (E4 (ty 2) (Oc p) (E4 (ty 3) L6 (some (.mk 5 0 [p,a],0)))))
def ur(c:Tr->An)(ty:Nat->An)(a:Tr):An:=thn (ty 0) fun s=> thn (Q0 (c s) 2) fun _=> some (.mk 10 0 [s,a,a],0)
def Nq(ty:Nat->An)(p:Tr):An:=thn (Q0 (ty 1) 10) fun e=> Ea (ty 0) (kd e.kids 0) (E4 (ty 2) (.mk 5 0 [p,kd e.kids 1]) (some (.mk 5 0 [p,kd e.kids 2],0)))
def lo(ty:Nat->An)(T a:Tr):An:=thn (Q0 (ty 0) 2) fun _=> thn (some (S4 T 13)) fun s=> E4 (ty 1) (kd s.kids 0) (E4 (ty 2) (X0 a (kd s.kids 1) 0 0) (some (T,0)))
def Zk(ty:Nat->An)(k:Int)(a:Tr):An:=thn (Q0 (ty 0) 13) fun s=> some (if k=15 then kd s.kids 0 else X0 (.mk 15 0 [a]) (kd s.kids 1) 0 0,0)
def ju(G:List Tr)(n:Int):Tr×Int:=if(G.length:Int)<=n then(D2,1) else(shfT (n+1) (kd G (G.length - 1 - n.toNat)) 0,0)
def qf(G:List Tr)(c:List Tr->Tr->An)(ty:Nat->An)(k n:Int)(a:List Tr):An:=
 if k=1 then some (ju G n)
 else if k=2 then some (if 3<=n then(D2,1) else(m7 (n+1),0))
 else if k=6 then some (m7 0,0)
 else if k=7 then some (L6,0)
 else if k=8 then E4 (ty 0) L6 (some (L6,0))
 else if k=3\/k=13 then tf ty
 else if k=4 then Wo c G ty (kd a 0)
 else if k=5 then Vm ty (kd a 1)
 else if k=9 then Xn ty (kd a 0) (kd a 3)
 else if k=10 then Ve ty (kd a 0)
 else if k=11 then ur (c G) ty (kd a 0)
 else if k=12 then Nq ty (kd a 0)
 else if k=14 then lo ty (kd a 0) (kd a 1)
 else Zk ty k (kd a 0)
def O0:Nat->List Tr->Tr->An
 |0,_,_=> none
 |f+1,G,.mk k n ks=> if valid sigT (.mk k n ks)=false\/20 < G.length then some (D2,2) else thn (qf G (O0 f) (Sa (O0 f) G k ks) k n ks) fun s=> some (mkV s)
def Rl(b:Prop)(x y:An):Prop:= ∀s c a d,x=some (s,c)->y=some (a,d)->(s=a/\c=d)\/(b/\s=D2/\a=D2/\c=1/\d=2)
def rg(x:An):Prop:= ∀s c,x=some (s,c)->c≠1
section
variable {b : Prop}
theorem Rl.rfl'(x:An):Rl b x x:=fun s c d e h a=> by rw[h] at a;simp only[cM,cQ] at a;exact .inl a
theorem Rl.no(y:An):Rl b none y:=fun s c a d h=> by cases h
theorem Rl.no'(x:An):Rl b x none:=fun s c a d _ h=> by cases h
theorem Rl.seq{x y:An}{f g:Tr->An}(h:Rl b x y)(k: ∀s,x=some (s,0)->y=some (s,0)->Rl b (f s) (g s)):Rl b (thn x f) (thn y g):=by
 cases x with
 |none=> exact Rl.no _
 |some p=>
  cases y with
  |none=> exact Rl.no' _
  |some q=>
   obtain⟨s,c⟩:=p;obtain⟨a,e⟩:=q;rcases h s c a e rfl rfl with⟨rfl,rfl⟩ |⟨j,rfl,rfl,rfl,rfl⟩
   · unfold thn
     simp only
     split
     · rename_i hc
       subst hc;exact k s rfl rfl
     · exact Rl.rfl' _
   · intro s c a e i d
     simp[thn] at i d
     obtain⟨rfl,rfl⟩:=i;obtain⟨rfl,rfl⟩:=d;exact .inr ⟨j,rfl,rfl,rfl,rfl⟩
theorem Rl.frm{x y:An}(kind:Int)(h:Rl b x y):Rl b (Q0 x kind) (Q0 y kind):=h.seq fun _ _ _=> Rl.rfl' _
theorem Rl.chk{x y u v:An}(w:Tr)(h:Rl b x y)(k:(∃s,y=some (s,0)/\W3 s w=0)->Rl b u v):Rl b (E4 x w u) (E4 y w v):=h.seq fun s _ e=> by
 split
 · rename_i a
   exact k ⟨s,e,a⟩
 · exact Rl.rfl' _
theorem Rl.fam{x y u v:An}(T:Tr)(h:Rl b x y)(k:(∃s,Q0 y 3=some (s,0))->Rl b u v):Rl b (Ea x T u) (Ea y T v):=(h.frm 3).seq fun s _ e=> by
 split
 · exact(Rl.rfl' _).seq fun _ _ _=> k ⟨s,e⟩
 · exact Rl.rfl' _
theorem ww{s w:Tr}(h:valid sigT w=false):W3 s w=2:=by
 unfold W3 ge;simp[h]
theorem xl{w:Tr}(f:Tr->An)(h:valid sigT w=true):thn (some (mkV w)) f=f w:=by
 unfold mkV;rw[if_pos h]
 rfl
theorem gE{w:Tr}(f:Tr->An)(h: ¬valid sigT w=true):thn (some (mkV w)) f=some (D2,2):=by
 unfold mkV;rw[if_neg h]
 rfl
def d7(x:An):Prop:= ∀s c,x=some (s,c)->(c=0\/c=1\/c=2)/\(c≠0->s=D2)
theorem d7.no:d7 none:=fun s c h=> by cases h
theorem d7.seq{x:An}{f:Tr->An}(h:d7 x)(k: ∀s,d7 (f s)):d7 (thn x f):=by
 intro s c e;rcases Yr e with⟨t,d,a⟩ |⟨t,g,d,i,a⟩
 · exact k t s c a
 · simp only[cQ] at a
   obtain⟨rfl,rfl⟩:=a;exact⟨(h _ _ d).1,fun _=> rfl⟩
theorem d7.ok(s:Tr):d7 (some (s,0)):=fun s c e=> by
 simp only[cM,cQ] at e;obtain⟨rfl,rfl⟩:=e;exact⟨.inl rfl,fun h=> absurd rfl h⟩
theorem d7.at{c:Int}(h:c=1\/c=2):d7 (some (D2,c)):=fun s a e=> by
 simp only[cM,cQ] at e;obtain⟨rfl,rfl⟩:=e;exact⟨.inr h,fun _=> rfl⟩
theorem d7.mk(t:Tr):d7 (some (mkV t)):=by
 unfold mkV
 split
 · exact d7.ok _
 · exact d7.at (.inr rfl)
theorem d7.shp(t:Tr)(kind:Int):d7 (some (S4 t kind)):=by
 unfold S4
 split
 · exact d7.at (.inr rfl)
 · split
   · exact d7.at (.inl rfl)
   · exact d7.ok _
theorem d7.frm{x:An}(kind:Int)(h:d7 x):d7 (Q0 x kind):=h.seq fun _=> d7.shp _ _
theorem GA(a b:Tr):W3 a b=0\/W3 a b=1\/W3 a b=2:=by
 unfold W3
 split
 · exact .inl rfl
 · split
   · exact .inr (.inl rfl)
   · exact .inr (.inr rfl)
theorem d7.chk{x y:An}(w:Tr)(h:d7 x)(k:d7 y):d7 (E4 x w y):=h.seq fun s=> by
 split
 · exact k
 · rename_i a
   exact d7.at ((GA _ _).resolve_left a)
theorem d7.fam{x y:An}(T:Tr)(h:d7 x)(k:d7 y):d7 (Ea x T y):=(h.frm 3).seq fun s=> by
 split
 · exact(d7.shp _ _).seq fun _=> k
 · rename_i a
   exact d7.at ((GA _ _).resolve_left a)
theorem d7.fin{x:An}(h:d7 x):d7 (thn x fun s=> some (mkV s)):=h.seq fun _=> d7.mk _
theorem d7.ite{p:Prop}[Decidable p]{x y:An}(h:d7 x)(k:d7 y):d7 (if p then x else y):=by
 by_cases e:p
 · rw[if_pos e];exact h
 · rw[if_neg e];exact k
theorem d7.two{p:Prop}[Decidable p](s:Tr):d7 (some (if p then(D2,(1:Int)) else(s,0))):=by
 by_cases e:p
 · rw[if_pos e];exact d7.at (.inl rfl)
 · rw[if_neg e];exact d7.ok _
theorem d7.jud{G:List Tr}{a:List Tr->Tr->An}{ty:Nat->An}(h: ∀G t,d7 (a G t))(k: ∀i,d7 (ty i))(c n:Int)(d:List Tr):d7 (qf G a ty c n d):=
 (d7.two _).ite <|(d7.two _).ite <|(d7.ok _).ite <|(d7.ok _).ite <|
 ((k 0).chk _ (d7.ok _)).ite <|
 (((k 0).frm 2).seq fun _=>((k 1).frm 2).seq fun _=> d7.ok _).ite <|
 (((k 0).frm 2).seq fun _=>(k 1).seq fun _=>((h _ _).frm 2).seq fun _=>((h _ _).frm 2).seq fun _=> d7.ok _).ite <|
 (((k 0).frm 3).seq fun _=>(k 1).chk _ (d7.ok _)).ite <|
 ((k 0).fam _ ((k 1).chk _ ((k 2).chk _ ((k 3).chk _ (d7.ok _))))).ite <|
 (((k 0).frm 2).seq fun _=>(k 1).chk _ ((k 2).chk _ (d7.ok _))).ite <|
 ((k 0).seq fun _=>((h _ _).frm 2).seq fun _=> d7.ok _).ite <|
 (((k 1).frm 10).seq fun _=>(k 0).fam _ ((k 2).chk _ (d7.ok _))).ite <|
 (((k 0).frm 2).seq fun _=>(d7.shp _ _).seq fun _=>(k 1).chk _ ((k 2).chk _ (d7.ok _))).ite <|
 ((k 0).frm 13).seq fun _=> d7.ok _
theorem Vn: ∀(f:Nat) (G:List Tr) (t:Tr),d7 (O0 f G t)
 |0,G,t=> d7.no
 |f+1,G,.mk k n a=> by
  have ih:=Vn f;exact(d7.at (.inr rfl)).ite (d7.jud ih (fun i=>(ih _ _).ite (ih _ _)) k n a).fin
theorem Rl.open{x:An}(h:d7 x)(a:b\/rg x)(hn: ∀s,x≠some (s,0)):Rl b x (some (D2,2)):=by
 intro s c i j d f;simp at f
 obtain⟨rfl,rfl⟩:=f;obtain⟨g,e⟩:=h s c d;rcases g with rfl|rfl|rfl
 · exact absurd d (hn _)
 · rcases a with a|a
   · exact .inr ⟨a,e (by decide),rfl,rfl,rfl⟩
   · exact absurd rfl (a _ _ d)
 · exact .inl ⟨e (by decide),rfl⟩
theorem rg.seq{x:An}{f:Tr->An}(h:rg x)(k: ∀s,rg (f s)):rg (thn x f):=by
 intro s c e;rcases Yr e with⟨t,d,a⟩ |⟨t,g,d,i,a⟩
 · exact k t s c a
 · simp only[cQ] at a
   obtain⟨rfl,rfl⟩:=a;exact h _ _ d
theorem rg.at{c:Int}{s:Tr}(h:c≠1):rg (some (s,c)):=fun s a e=> by
 simp only[cM,cQ] at e;obtain⟨-,rfl⟩:=e;exact h
theorem Rl.has{x y u v:An}(w:Tr)(h:Rl b x y)(hx:d7 x)(a:b\/valid sigT w=true\/rg x)(k:valid sigT w=true->(∃s,y=some (s,0)/\W3 s w=0)->Rl b u v):Rl b (E4 x w u) (thn (some (mkV w)) fun w=> E4 y w v):=by
 by_cases hv:valid sigT w=true
 · rw[xl _ hv]
   exact h.chk w (k hv)
 · rw[gE _ hv]
   have c:valid sigT w=false:=by simpa using hv
   have e:E4 x w u=E4 x w (some (D2,2)):=by
    unfold E4
    congr 1
    funext s
    rw[ww c,if_neg (by decide),if_neg (by decide)]
   rw[e];refine Rl.open (hx.chk _ (d7.at (.inr rfl))) ?_ ?_
   · rcases a with a|a|a
     · exact .inl a
     · exact absurd a hv
     · refine .inr (a.seq fun s=> ?_)
       rw[ww c,if_neg (by decide)];exact rg.at (by decide)
   · intro s e
     obtain⟨t,-,d,-⟩:=ej e;rw[ww c] at d;cases d
theorem Ee(x:An)(f g:Tr->An):thn (thn x f) g=thn x fun s=> thn (f s) g:=by
 cases x with
 |none=> rfl
 |some p=>
  obtain⟨s,c⟩:=p;unfold thn;simp only;by_cases h:c=0
  · rw[if_pos h,if_pos h]
  · rw[if_neg h,if_neg h]
    simp only;rw[if_neg h]
theorem Oq{p:Prop}[Decidable p](x y:An)(g:Tr->An):thn (if p then x else y) g=if p then thn x g else thn y g:=by
 by_cases h:p
 · rw[if_pos h,if_pos h]
 · rw[if_neg h,if_neg h]
theorem ro{c:Int}(h:c≠0)(s:Tr)(g:Tr->An):thn (some (s,c)) g=some (D2,c):=by
 unfold thn;simp only;rw[if_neg h]
theorem rm(x y:An)(w:Tr)(g:Tr->An):thn (E4 x w y) g=E4 x w (thn y g):=by
 unfold E4;rw[Ee]
 congr 1
 funext s
 by_cases h:W3 s w=0
 · rw[if_pos h,if_pos h]
 · rw[if_neg h,if_neg h,ro h]
theorem UE(x y:An)(T:Tr)(g:Tr->An):thn (Ea x T y) g=Ea x T (thn y g):=by
 unfold Ea;rw[Ee]
 congr 1
 funext s
 by_cases h:W3 (kd s.kids 0) T=0
 · rw[if_pos h,if_pos h,Ee]
 · rw[if_neg h,if_neg h,ro h]
theorem Rl.ite{p:Prop}[Decidable p]{x y u v:An}(h:p->Rl b x u)(k: ¬p->Rl b y v):Rl b (if p then x else y) (if p then u else v):=by
 by_cases e:p
 · rw[if_pos e,if_pos e];exact h e
 · rw[if_neg e,if_neg e];exact k e
theorem Rl.ok(s:Tr)(h:valid sigT s=true):Rl b (thn (some (s,0)) fun s=> some (mkV s)) (some (s,0)):=by
 show Rl b (some (mkV s)) _
 unfold mkV;rw[if_pos h];exact Rl.rfl' _
theorem lw{n:Int}(c:0<=n)(a:n<=3):valid sigT (m7 n)=true:=by
 have:n=0\/n=1\/n=2\/n=3:=by omega
 rcases this with rfl|rfl|rfl|rfl <;> decide
theorem Sx{x:An}{s:Tr}(h:Q0 x 2=some (s,0)):0<=s.num/\s.num<=3:=by
 obtain⟨u,-,c,a⟩:=vf h;obtain⟨-,-,-,hv⟩:=BA c;obtain⟨k,n,f⟩:=s;simp only[Tr.kind] at a;subst a;have:=(m6 (N4 hv).1);have d:=this.2.1;have e:=this.2.2.1;exact⟨d,e⟩
end
end Go.Proofs.YtckhbnmfnpolgaaGreat
namespace Go.Proofs.YtckhbnmfnpolgaaGreat
open Go.RowKit
open M (Hd HR Cv Ty j2 rc a7 O5)
theorem Dm{t:Tr}(h:valid sigT t=true): ∃m,t=enc m:=by
 obtain⟨m,e⟩:=Tw _ _ (N4 h).1;exact⟨m,e.symm⟩
def ccR(f:Nat):List Tr->List Tr->An
 |_, []=> some (D2,0)
 |done,t::ts=> thn (Q0 (P0 f done t) 2) fun _=> ccR f (done++ [t]) ts
def ccV(f:Nat)(ctx:List Tr):An:=if Qc ctx=true then ccR f [] ctx else some (D2,3)
def Xa(f:Nat)(ctx l:List Tr):An:=match ccV f ctx with
 |none=> none
 |some r=> if l.all (fun t=> valid sigT t)=true then some r else some (D2,3)
def Ra(f:Nat)(ctx:List Tr)(t:Tr):An:=thn (Xa f ctx [t]) fun _=> thn (P0 f ctx t) fun s=> some (s,0)
def Ys(f:Nat)(ctx:List Tr)(t a:Tr):An:=thn (Xa f ctx [t,a]) fun _=> thn (Q0 (P0 f ctx a) 2) fun _=> E4 (P0 f ctx t) a (some (D2,0))
theorem i5.ccR{f a:Nat}(h:f<=a): ∀ts done:List Tr,i5 (ccR f done ts) (ccR a done ts)
 | [],done=> i5.rfl' _
 |t::ts,done=>((Qj h done t).frm 2).thn fun _=> i5.ccR h ts _
theorem i5.ccV{f a:Nat}(h:f<=a)(ctx:List Tr):i5 (ccV f ctx) (ccV a ctx):=by
 unfold Go.Proofs.YtckhbnmfnpolgaaGreat.ccV
 split
 · exact i5.ccR h _ _
 · exact i5.rfl' _
theorem DB{f:Nat}: ∀(ts:List Tr) (G:List M.Tm) (u:Tr),y6 G->(∀t∈ts,valid sigT t=true)->ccR f (ctxE G) ts=some (u,0)-> ∃D,ctxE D=ctxE G++ts/\y6 D
 | [],G,u,hG,hv,h=>⟨G,by simp,hG⟩
 |t::ts,G,u,hG,hv,h=> by
  obtain⟨s,e,a⟩:=ga h;obtain⟨A,rfl⟩:=Dm (hv t (by simp));obtain⟨S,i,-,-,-,-,b,-⟩:=pe (snd f) hG (hv _ (by simp)) e;rw[<-de] at a;obtain⟨D,c,d⟩:=DB ts (A::G) u (hG.cons b (hv _ (by simp))) (fun x hx=> hv x (by simp[hx])) a;exact⟨D,by rw[c,de];simp,d⟩
theorem fy{f:Nat}{ctx:List Tr}{u:Tr}(h:ccV f ctx=some (u,0)): ∃G,ctx=ctxE G/\y6 G/\G.length<=8:=by
 unfold ccV at h
 split at h
 · rename_i hf
   obtain⟨g,a⟩:=et hf;obtain⟨D,c,d⟩:=DB ctx [] u y6.nil a h;have e:ctx=ctxE D:=by rw[c];simp[ctxE]
   exact⟨D,e,d,by rw[<-q28,<-e];exact g⟩
 · simp at h
theorem Rm{f:Nat}{ctx l:List Tr}{u:Tr}(h:Xa f ctx l=some (u,0)):ccV f ctx=some (u,0)/\ ∀t∈l,valid sigT t=true:=by
 unfold Xa at h;cases e:ccV f ctx with
 |none=> rw[e] at h;cases h
 |some r=>
  rw[e] at h;simp only at h
  split at h
  · rename_i hv
    exact⟨h,by simpa using hv⟩
  · simp at h
theorem Nn{f:Nat}{ctx:List Tr}{t s:Tr}(h:Ra f ctx t=some (s,0)): ∃G a A,ctx=ctxE G/\y6 G/\G.length<=8/\t=enc a/\valid sigT t=true/\s=enc A/\Ty G a A/\j2 G a/\valid sigT s=true/\P0 f ctx t=some (s,0):=by
 obtain⟨u,n,k⟩:=ga h;obtain⟨e,i⟩:=Rm n;obtain⟨G,rfl,hG,h8⟩:=fy e;have hv:=i t (by simp);obtain⟨a,rfl⟩:=Dm hv;obtain⟨d,c,l⟩:=ga k;obtain rfl:d=s:=by simpa using l
 obtain⟨A,rfl,g,m,j⟩:=snd f G a _ hG hv c;exact⟨G,a,A,rfl,hG,h8,rfl,hv,rfl,g,m,j,c⟩
theorem y6.tail{A:M.Tm}{G:List M.Tm}(h:y6 (A::G)):y6 G/\a7 G A/\valid sigT (enc A)=true:=
 ⟨⟨fun n B a=> by simpa using h.wf (n+1) B (by simpa using a),fun B a=> h.vd B (by simp[a])⟩,by simpa using h.wf 0 A rfl,h.vd A (by simp)⟩
theorem Sk{f:Nat}{G:List M.Tm}{A:M.Tm}(hG:y6 G)(hA:a7 G A)(hv:valid sigT (enc A)=true):Nb (Q0 (P0 f (ctxE G) (enc A)) 2):=by
 obtain⟨c,k,hk,S,a,r⟩:=hA;refine(Nk f G A S hG hv a c).frm fun s e=> ?_
 obtain⟨rfl,-⟩:=Wi hG hv a e;exact⟨S,.sort k,rfl,r,by simp[M.hk],rfl⟩
theorem bE(f:Nat): ∀(a done d:List Tr),ccR f done (a++d)=thn (ccR f done a) fun _=> ccR f (done++a) d
 | [],done,d=> by simp[ccR,thn]
 |x::a,done,d=> by
  rw[List.cons_append,ccR,ccR];have:=fun s:Tr=> bE f a (done++ [x]) d
  simp only[List.append_assoc,List.singleton_append] at this;unfold thn;cases Q0 (P0 f done x) 2 with
  |none=> rfl
  |some y=>
   obtain⟨s,c⟩:=y;simp only
   split
   · rw[this s]
     rfl
   · rename_i hc
     simp only;rw[if_neg hc]
theorem Uk{f:Nat}: ∀G:List M.Tm,y6 G->Nb (ccR f [] (ctxE G))
 | [],h=> Nb.ok _
 |A::G,h=> by
  obtain⟨a,c,d⟩:=h.tail;rw[de,bE];refine(Uk G a).thn fun _ _=> ?_
  rw[List.nil_append,ccR];exact(Sk a c d).thn fun _ _=> Nb.ok _
theorem ZJ{G:List M.Tm}(h:y6 G)(h8:G.length<=8):Qc (ctxE G)=true:=by
 unfold Qc;rw[Bool.and_eq_true,decide_eq_true_eq,q28];refine⟨h8, ?_⟩;simp only[Bool.not_eq_true',List.any_eq_false];intro t ht;unfold ctxE at ht;rw[List.mem_reverse,List.mem_map] at ht;obtain⟨A,hA,rfl⟩:=ht;simp[h.vd A hA]
theorem dE{f:Nat}{G:List M.Tm}(h:y6 G)(h8:G.length<=8){l:List Tr}(hl: ∀t∈l,valid sigT t=true):Nb (Xa f (ctxE G) l):=by
 have a:=Uk (f:=f) G h;unfold Xa ccV;rw[if_pos (ZJ h h8)];cases e:ccR f [] (ctxE G) with
 |none=> intro s c d;cases d
 |some r=>
  rw[e] at a;simp only;rw[if_pos (by simpa using hl)];exact a
theorem EE: ∀(ts:List Tr) (G:List M.Tm),y6 G->(∀t∈ts,valid sigT t=true)-> ∃f,Is (ccR f (ctxE G) ts)
 | [],G,hG,hv=>⟨0,Is.mk _⟩
 |t::ts,G,hG,hv=> by
  have v:=hv t (by simp);obtain⟨A,rfl⟩:=Dm v;obtain⟨a,d⟩:=(Tv 20 G (by omega) hG A v).at;by_cases c: ∃f s,Q0 (P0 f (ctxE G) (enc A)) 2=some (s,0)
  · obtain⟨k,l,hs⟩:=c
    obtain⟨S,i,-,-,-,-,b,-⟩:=pe (snd k) hG v hs;obtain⟨j,g⟩:=EE ts (A::G) (hG.cons b v) (fun x hx=> hv x (by simp[hx]));refine⟨a+j,((d _ (by omega)).frm 2).thn fun s _=> ?_⟩;rw[<-de];exact g.le (i5.ccR (by omega) _ _)
  · exact⟨a,((d _ (Nat.le_refl _)).frm 2).thn fun s e=> absurd ⟨a,s,e⟩ c⟩
theorem OK(ctx:List Tr): ∃f,∀a,f<=a->Is (ccV a ctx):=by
 by_cases h:Qc ctx=true
 · obtain⟨f,c⟩:=EE ctx [] y6.nil (et h).2
   refine⟨f,fun a hf=> ?_⟩;unfold ccV;rw[if_pos h];exact c.le (i5.ccR hf _ _)
 · refine⟨0,fun a _=> ?_⟩
   unfold ccV;rw[if_neg h];exact Is.mk _
theorem zB(ctx l:List Tr): ∃f,∀a,f<=a->Is (Xa a ctx l):=by
 obtain⟨f,h⟩:=OK ctx;refine⟨f,fun a hf=> ?_⟩;obtain⟨r,e⟩:=h a hf;unfold Xa;rw[e];simp only
 split <;> exact Is.mk _
theorem Oy{ctx l:List Tr}{t:Tr}(ht:valid sigT t=true): ∃f,∀c,f<=c->(∃g u,Xa g ctx l=some (u,0))->Is (P0 c ctx t):=by
 by_cases h: ∃g u,Xa g ctx l=some (u,0)
 · obtain⟨g,u,e⟩:=h
   obtain⟨G,rfl,hG,-⟩:=fy (Rm e).1;obtain⟨a,rfl⟩:=Dm ht;obtain⟨f,d⟩:=(Tv 20 G (by omega) hG a ht).at;exact⟨f,fun c hf _=> d c hf⟩
 · exact⟨0,fun _ _ k=> absurd k h⟩
theorem Yx(ctx:List Tr)(t:Tr): ∃f,∀a,f<=a->Is (Ra a ctx t):=by
 obtain⟨c,d⟩:=zB ctx [t];by_cases hv:valid sigT t=true
 · obtain⟨i,g⟩:=Oy (ctx:=ctx) (l:= [t]) hv
   exact⟨c+i,fun a hf=>(d a (by omega)).thn fun s e=>(g a (by omega) ⟨a,s,e⟩).thn fun _ _=> Is.mk _⟩
 · exact⟨c,fun a hf=>(d a (by omega)).thn fun s e=> absurd ((Rm e).2 t (by simp)) hv⟩
theorem FK(ctx:List Tr)(t a:Tr): ∃f,∀c,f<=c->Is (Ys c ctx t a):=by
 obtain⟨d,g⟩:=zB ctx [t,a];by_cases hv:valid sigT t=true
 · by_cases i:valid sigT a=true
   · obtain⟨n,k⟩:=Oy (ctx:=ctx) (l:= [t,a]) hv
     obtain⟨j,m⟩:=Oy (ctx:=ctx) (l:= [t,a]) i;exact⟨d+n+j,fun c hf=>(g c (by omega)).thn fun s e=>((m c (by omega) ⟨c,s,e⟩).frm 2).thn fun _ _=>(k c (by omega) ⟨c,s,e⟩).chk _ (Is.mk _)⟩
   · exact⟨d,fun c hf=>(g c (by omega)).thn fun s e=> absurd ((Rm e).2 a (by simp)) i⟩
 · exact⟨d,fun c hf=>(g c (by omega)).thn fun s e=> absurd ((Rm e).2 t (by simp)) hv⟩
