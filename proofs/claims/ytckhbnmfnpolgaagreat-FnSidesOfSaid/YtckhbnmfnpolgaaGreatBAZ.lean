/-
  Lemmas towards the law, 26: InfA, InfS, MCk.
-/
import Derived.Test.YtckhbnmfnpolgaaGreatBAY
open Go renaming bodyPost_ret->aO,results->aQ
open Option.some renaming injEq->bW
open Prod.mk renaming injEq->cK
open Go.Proofs.Tryz
set_option linter.unusedVariables false
set_option maxHeartbeats 1000000
set_option maxRecDepth 100000
namespace Go.Proofs.YtckhbnmfnpolgaaGreat
open Go.RowKit
theorem Io{t:Tr}(h:j0 m0 t=true):mkV t=(t,0):=if_pos h
theorem Ul{t:Tr}(h:j0 m0 t=false):mkV t=(E2,2):=if_neg (by rw[h];decide)
theorem Sr(t:Tr)(ok:Bool)(a:World)(N:Nat->Prop)(v:Value)(j:InT a N t v):Calls prog 103 #[v,.bool ok] a (N9 N a (if ok=true then mkV t else(E2,2))):=by
 have p:=hdq (fun W (w:Ext a W)=> kr t W v (j.lies'.ext w));have y:=hdq j;obtain⟨z,d⟩: ∃z,j0 m0 t=z:=⟨_,rfl⟩;rw[d] at p;obtain⟨k,n,r⟩:=t;obtain⟨A,cap,rfl,hl,hc,hK⟩:=InT.mk_iff.1 j;clear j;cases ok with
 |false=>
  rw[if_neg (by simp)];clear d;go_enter func103,ntmps103;go_wp2_with fail;exact aO (v:= .tuple #[.agg #[.int .i64 0,.int .i64 0,.slice none 0 0],.int .i64 2]) (by simp[aQ,results103,go_sem]) rfl ⟨_,rfl,F5 _ _ 0 0,(((xr _).alloc _).alloc _)⟩
 |true=>
  rw[if_pos rfl];obtain⟨E,f⟩: ∃x,x=((a.alloc (.cells #[.int .i64 k,.int .i64 n,.slice A r.length cap] 25)).alloc (.cells #[.int .i64 0,.int .i64 0,.slice none 0 0] 25)):=⟨_,rfl⟩;obtain⟨s,q,D,l⟩:=box2 f;cases z with
  |false=>
   rw[Ul d];clear d;go_enter func103,ntmps103;go_wp2_with fail;rw[<-f];clear f;refine(p.out _ l).mono ?_;rintro e B ⟨rfl,c⟩;have C:=c.size;have g:=c;have u:=cb3 (g.blk s);have o:=Z9 (g.blk q);have m:=l;have i:=m.trans c;go_wp2_with fail;refine aO (v:= .tuple #[.agg #[.int .i64 0,.int .i64 0,.slice none 0 0],.int .i64 2]) (by simp[aQ,results103,go_sem,o]) rfl ⟨_,rfl,F5 _ _ 0 0,(i.set3 (by omega) _ _ _)⟩
  |true=>
   rw[Io d];clear d;go_enter func103,ntmps103;go_wp2_with fail;rw[<-f];clear f;refine(p.out _ l).mono ?_;rintro e B ⟨rfl,c⟩;have C:=c.size;have m:=l;have i:=m.trans c;have g:=c;have u:=cb3 (g.blk s);have o:=Z9 (g.blk q);go_wp2_with fail;refine aO (v:= .tuple #[.agg #[.int .i64 k,.int .i64 n,.slice A r.length cap],.int .i64 0]) (by simp[aQ,results103,go_sem,o]) rfl ⟨_,rfl,InT.ret (InT.keep y.out i (show a.heap.size<=a.heap.size+1 from Nat.le_succ _)) _ _ _,(i.set3 (by omega) _ _ _)⟩
theorem aE(a b:Tr)(j:World)(s w:Value)(t:Lies j a s)(u:Lies j b w):Calls prog 80 #[s,w] j fun e I=> e= .returned (.int .i64 (V3 a b))/\Ext j I:=by
 have r:=hdq (fun W (y:Ext j W)=> gJ a b 200 W s w (t.ext y) (u.ext y));obtain⟨c,g⟩: ∃c,Sc a b 200=c:=⟨_,rfl⟩;rw[g] at r;have m:c=1->V3 a b=0:=fun h=> by unfold V3;rw[g,if_pos h]
 have o: ¬c=1->c=2->V3 a b=1:=fun h v=> by unfold V3;rw[g,if_neg h,if_pos v]
 have p: ¬c=1-> ¬c=2->V3 a b=2:=fun h v=> by unfold V3;rw[g,if_neg h,if_neg v]
 generalize V3 a b=R at m o p⊢;clear g;obtain⟨k,n,J⟩:=a;obtain⟨A,cap,rfl,hl,hc,hK⟩:=Lies.mk_iff.1 t;obtain⟨E,F,H⟩:=b;obtain⟨B,G,rfl,D,f,C⟩:=Lies.mk_iff.1 u;clear t u;obtain⟨M,i⟩: ∃x,x=((j.alloc (.cells #[.int .i64 k,.int .i64 n,.slice A J.length cap] 25)).alloc (.cells #[.int .i64 E,.int .i64 F,.slice B H.length G] 25)):=⟨_,rfl⟩;obtain⟨K,N,L,l⟩:=box2 i;by_cases d:c=1
 · obtain rfl:=m d
   clear m o p;subst d;go_enter func80,ntmps80;go_wp2_with fail;rw[<-i];clear i;refine(r.out _ l).mono ?_;rintro e z ⟨rfl,q⟩;go_wp2_with fail;go_ret;exact⟨rfl,(l.trans q)⟩
 have t1:(c==1)=false:=beq_eq_false_iff_ne.2 d;by_cases f:c=2
 · obtain rfl:=o d f
   clear m o p t1 d;subst f;go_enter func80,ntmps80;go_wp2_with fail;rw[<-i];clear i;refine(r.out _ l).mono ?_;rintro e z ⟨rfl,q⟩;go_wp2_with fail;go_ret;exact⟨rfl,(l.trans q)⟩
 have t2:(c==2)=false:=beq_eq_false_iff_ne.2 f;obtain rfl:=p d f;clear m o p d f;go_enter func80,ntmps80;go_wp2_with fail;rw[<-i];clear i;refine(r.out _ l).mono ?_;rintro e z ⟨rfl,q⟩;go_wp2_with fail;go_ret;exact⟨rfl,(l.trans q)⟩
theorem qB(t:Tr)(kind:Int)(m:World)(N:Nat->Prop)(hN: ∀b,m.heap.size<=b->N b)(v:Value)(U:Lies m t v):Calls prog 83 #[v,.int .i64 kind] m (N9 N m (d4 t kind)):=by
 have M:=hdq (fun W (hW:Ext m W)=> wI t 200 W v (U.ext hW));have Q:=hdq hN;obtain⟨⟨⟨f,u,w⟩,c⟩,E⟩: ∃q,d7 t 200=q:=⟨_,rfl⟩;rw[E] at M;have H: ¬c=0->d4 t kind=(E2,2):=fun h=> by unfold d4;rw[E,if_pos h]
 have D:c=0-> ¬f=kind->d4 t kind=(E2,1):=fun h S=> by unfold d4;rw[E,if_neg (by simpa using h)];exact if_pos S
 have K:c=0->f=kind->d4 t kind=(.mk f u w,0):=fun h S=> by unfold d4;rw[E,if_neg (by simpa using h)];exact if_neg (fun O=> O S)
 generalize d4 t kind=R at H D K⊢;clear hN E;obtain⟨k,n,Z⟩:=t;obtain⟨A,cap,rfl,hl,hc,hK⟩:=Lies.mk_iff.1 U;clear U;obtain⟨w1,y⟩: ∃x,x=((m.alloc (.cells #[.int .i64 k,.int .i64 n,.slice A Z.length cap] 25)).alloc (.cells #[.int .i64 0,.int .i64 0,.slice none 0 0] 25)):=⟨_,rfl⟩;obtain⟨P,z,s1,o⟩:=box2 y;by_cases a:c=0
 · by_cases hk:f=kind
   · obtain rfl:=K a hk
     subst a;subst hk;clear H D K;have t1:(f !=f)=false:=by simp
     go_enter func83,ntmps83;go_wp2_with fail;rw[<-y];clear y;refine(M.out _ o).mono ?_;rintro e d ⟨r,rfl,p,j⟩;have X:=j.size;have l:InT d (fun b=> N b/\b≠m.heap.size+1) (.mk f u w) r:=p.at' (Oa Q.out o.size (by omega));obtain⟨C,B,rfl,V,F,i⟩:=InT.mk_iff.1 l;have T:=hdq l;clear l p i;have g:=j;have Y:=cb3 (g.blk P);have J:=cbn (g.blk z);have s:Ext d (d.alloc (.cells #[.int .i64 f,.int .i64 u,.slice C w.length B] 25)):=(xr d).alloc _;have I:=o;have L:=I.trans j;have G:=cbn (s.blk (g.blk z));go_wp2_with fail;refine aO (v:= .tuple #[.agg #[.int .i64 f,.int .i64 u,.slice C w.length B],.int .i64 0]) (by simp[aQ,results83,go_sem,J,G]) rfl ⟨_,rfl,InT.ret (InT.later T.out ((xr _).alloc _)) _ _ _,((((L.trans s).setCell (by simp;try omega) _).setCell (by simp;try omega) _).setCell (by simp;try omega) _)⟩
   · obtain rfl:=D a hk
     subst a;clear H D K;have t1:(f !=kind)=true:=by simp[hk]
     clear hk;go_enter func83,ntmps83;go_wp2_with fail;rw[<-y];clear y;refine(M.out _ o).mono ?_;rintro e d ⟨r,rfl,p,j⟩;have X:=j.size;have l:InT d (fun b=> N b/\b≠m.heap.size+1) (.mk f u w) r:=p.at' (Oa Q.out o.size (by omega));obtain⟨C,B,rfl,V,F,i⟩:=InT.mk_iff.1 l;have T:=hdq l;clear l p i;have g:=j;have Y:=cb3 (g.blk P);have J:=cbn (g.blk z);have s:Ext d (d.alloc (.cells #[.int .i64 f,.int .i64 u,.slice C w.length B] 25)):=(xr d).alloc _;have I:=o;have L:=I.trans j;have G:=cbn (s.blk (g.blk z));go_wp2_with fail;refine aO (v:= .tuple #[.agg #[.int .i64 0,.int .i64 0,.slice none 0 0],.int .i64 1]) (by simp[aQ,results83,go_sem,J,G]) rfl ⟨_,rfl,F5 _ _ 0 0,((((L.trans s).setCell (by simp;try omega) _).setCell (by simp;try omega) _).setCell (by simp;try omega) _)⟩
 · obtain rfl:=H a
   clear H D K;have t1:(c !=0)=true:=by simp[a]
   clear a;go_enter func83,ntmps83;go_wp2_with fail;rw[<-y];clear y;refine(M.out _ o).mono ?_;rintro e d ⟨r,rfl,p,j⟩;have X:=j.size;have l:InT d (fun b=> N b/\b≠m.heap.size+1) (.mk f u w) r:=p.at' (Oa Q.out o.size (by omega));obtain⟨C,B,rfl,V,F,i⟩:=InT.mk_iff.1 l;have T:=hdq l;clear l p i;have g:=j;have Y:=cb3 (g.blk P);have J:=cbn (g.blk z);have s:Ext d (d.alloc (.cells #[.int .i64 f,.int .i64 u,.slice C w.length B] 25)):=(xr d).alloc _;have I:=o;have L:=I.trans j;have G:=cbn (s.blk (g.blk z));go_wp2_with fail;refine aO (v:= .tuple #[.agg #[.int .i64 0,.int .i64 0,.slice none 0 0],.int .i64 2]) (by simp[aQ,results83,go_sem,J,G]) rfl ⟨_,rfl,F5 _ _ 0 0,((((L.trans s).setCell (by simp;try omega) _).setCell (by simp;try omega) _).setCell (by simp;try omega) _)⟩
theorem vm(n:Int)(w:World):Calls prog 140 #[.int .i64 n] w fun e a=> e= .returned (.agg #[.int .i64 2,.int .i64 n,.slice none 0 0])/\Ext w a:=by
 go_enter func140,ntmps140;go_wp2_with fail;exact aO (v:= .agg #[.int .i64 2,.int .i64 n,.slice none 0 0]) (by simp[aQ,results140,go_sem]) rfl ⟨rfl,(xr w).alloc _⟩
theorem EA(t:Tr)(c:World)(N:Nat->Prop)(v:Value)(y:InT c N t v):Calls prog 146 #[v] c fun e B=> ∃u,e= .returned u/\InT B N (kd t.kids 0) u/\Ext c B:=by
 obtain⟨k,n,a⟩:=t;obtain⟨A,cap,rfl,hl,hc,hK⟩:=InT.mk_iff.1 y;have i:=hc;unfold maxLen at i;have z:(Tr.mk k n a).kids=a:=rfl;rw[z];clear y z;by_cases d:a.length=0
 · have C:kd a 0=E2:=Mi (by omega)
   rw[C];generalize a.length=len at d hl;subst d;go_enter func146,ntmps146;go_wp2_with fail;exact aO (v:= .agg #[.int .i64 0,.int .i64 0,.slice none 0 0]) (by simp[aQ,results146,go_sem]) rfl ⟨_,rfl,F5 _ _ 0 0,(((xr _).alloc _).alloc _)⟩
 · have hx:=((xr c).alloc (.cells #[.int .i64 k,.int .i64 n,.slice A a.length cap] 25)).alloc (.cells #[.int .i64 0,.int .i64 0,.slice none 0 0] 25)
   obtain⟨b,o,s,p,H,G,j15,rfl,q,l,g,m,M,m1,F,w,E,J⟩:=hK.get (fun b _=> rfl) (j:=0) (by omega);simp only[Nat.zero_mul,Nat.add_zero] at l g m;have O:=hx.cell l;have L:=hx.cell g;have K:=hx.cell m;have r:kd a 0= .mk s p j15:=Od (by omega) q.out;rw[r];have x:(0:Int) <(a.length:Int):=by omega
   have f:0 < a.length:=by omega
   have I:(((a.length:Int))==0)=false:=beq_eq_false_iff_ne.2 (by omega);have D:=hdq w;clear r q hK F w E d l g m;go_enter func146,ntmps146;go_wp2_with fail;refine aO (v:= .agg #[.int .i64 s,.int .i64 p,.slice H j15.length G]) (by simp[aQ,results146,go_sem]) rfl ⟨_,rfl,InT.later D.out ?_, ?_⟩
   all_goals exact(((xr _).alloc _).alloc _)
def ja(a:List Tr->Tr->An)(G:List Tr)(k:Int)(c:List Tr)(i:Nat):An:=if E4 k i=0 then a G (kd c i) else a (G++ [kd c 0]) (kd c i)
def zp(a:List Tr->Tr->An)(G:List Tr)(ty:Nat->An)(A:Tr):An:=thn (V0 (ty 0) 2) fun _=> thn (ty 1) fun b=> thn (V0 (a G A) 2) fun _=> thn (V0 (a (G++ [A]) b) 2) fun _=> some (.mk 3 0 [A,b],0)
def Bm(ty:Nat->An)(a:Tr):An:=thn (V0 (ty 0) 3) fun s=> P3 (ty 1) (kd s.kids 0) (some (Q0 a (kd s.kids 1) 0 0,0))
def Qn(ty:Nat->An)(p a:Tr):An:=da (ty 0) i5 (P3 (ty 1) (.mk 5 0 [p,.mk 7 0 []]) (P3 (ty 2) (Wb p) (P3 (ty 3) i5 (some (.mk 5 0 [p,a],0)))))
def am(c:Tr->An)(ty:Nat->An)(a:Tr):An:=thn (ty 0) fun s=> thn (V0 (c s) 2) fun _=> some (.mk 10 0 [s,a,a],0)
def Lo(ty:Nat->An)(p:Tr):An:=thn (V0 (ty 1) 10) fun e=> da (ty 0) (kd e.kids 0) (P3 (ty 2) (.mk 5 0 [p,kd e.kids 1]) (some (.mk 5 0 [p,kd e.kids 2],0)))
def Ro(ty:Nat->An)(T a:Tr):An:=thn (V0 (ty 0) 2) fun _=> thn (some (d4 T 13)) fun s=> P3 (ty 1) (kd s.kids 0) (P3 (ty 2) (Q0 a (kd s.kids 1) 0 0) (some (T,0)))
def bj(ty:Nat->An)(k:Int)(a:Tr):An:=thn (V0 (ty 0) 13) fun s=> some (if k=15 then kd s.kids 0 else Q0 (.mk 15 0 [a]) (kd s.kids 1) 0 0,0)
def Wq(G:List Tr)(n:Int):Tr×Int:=if(G.length:Int)<=n then(E2,1) else(shfT (n+1) (kd G (G.length - 1 - n.toNat)) 0,0)
def de(G:List Tr)(c:List Tr->Tr->An)(ty:Nat->An)(k n:Int)(a:List Tr):An:=
 if k=1 then some (Wq G n)
 else if k=2 then some (if 3<=n then(E2,1) else(m6 (n+1),0))
 else if k=6 then some (m6 0,0)
 else if k=7 then some (i5,0)
 else if k=8 then P3 (ty 0) i5 (some (i5,0))
 else if k=3\/k=13 then ue ty
 else if k=4 then zp c G ty (kd a 0)
 else if k=5 then Bm ty (kd a 1)
 else if k=9 then Qn ty (kd a 0) (kd a 3)
 else if k=10 then Le ty (kd a 0)
 else if k=11 then am (c G) ty (kd a 0)
 else if k=12 then Lo ty (kd a 0)
 else if k=14 then Ro ty (kd a 0) (kd a 1)
 else bj ty k (kd a 0)
def M0:Nat->List Tr->Tr->An
 |0,_,_=> none
 |f+1,G,.mk k n ks=> if j0 m0 (.mk k n ks)=false\/20 < G.length then some (E2,2) else thn (de G (M0 f) (ja (M0 f) G k ks) k n ks) fun s=> some (mkV s)
def Rl(b:Prop)(x y:An):Prop:= ∀s c a d,x=some (s,c)->y=some (a,d)->(s=a/\c=d)\/(b/\s=E2/\a=E2/\c=1/\d=2)
def Ze(x:An):Prop:= ∀s c,x=some (s,c)->c≠1
section
variable {b : Prop}
theorem Rl.rfl'(x:An):Rl b x x:=fun s c d e h a=> by rw[h] at a;simp only[bW,cK] at a;exact .inl a
theorem Rl.no(y:An):Rl b none y:=fun s c a d h=> by cases h
theorem Rl.no'(x:An):Rl b x none:=fun s c a d _ h=> by cases h
theorem Rl.seq{x y:An}{f g:Tr->An}(h:Rl b x y)(k: ∀s,x=some (s,0)->y=some (s,0)->Rl b (f s) (g s)):Rl b (thn x f) (thn y g):=by
 cases x with
 |none=> exact Rl.no _
 |some p=>
  cases y with
  |none=> exact Rl.no' _
  |some q=>
   obtain⟨s,c⟩:=p;obtain⟨a,e⟩:=q;rcases h s c a e rfl rfl with⟨rfl,rfl⟩ |⟨j,rfl,rfl,rfl,rfl⟩
   · unfold thn
     simp only
     split
     · rename_i hc
       subst hc;exact k s rfl rfl
     · exact Rl.rfl' _
   · intro s c a e d i
     simp[thn] at d i
     obtain⟨rfl,rfl⟩:=d;obtain⟨rfl,rfl⟩:=i;exact .inr ⟨j,rfl,rfl,rfl,rfl⟩
theorem Rl.frm{x y:An}(kind:Int)(h:Rl b x y):Rl b (V0 x kind) (V0 y kind):=h.seq fun _ _ _=> Rl.rfl' _
theorem Rl.chk{x y u v:An}(w:Tr)(h:Rl b x y)(k:(∃s,y=some (s,0)/\V3 s w=0)->Rl b u v):Rl b (P3 x w u) (P3 y w v):=h.seq fun s _ e=> by
 split
 · rename_i a
   exact k ⟨s,e,a⟩
 · exact Rl.rfl' _
theorem Rl.fam{x y u v:An}(T:Tr)(h:Rl b x y)(k:(∃s,V0 y 3=some (s,0))->Rl b u v):Rl b (da x T u) (da y T v):=(h.frm 3).seq fun s _ e=> by
 split
 · exact(Rl.rfl' _).seq fun _ _ _=> k ⟨s,e⟩
 · exact Rl.rfl' _
theorem nu{s w:Tr}(h:j0 m0 w=false):V3 s w=2:=by
 unfold V3 Sc;simp[h]
theorem nj{w:Tr}(f:Tr->An)(h:j0 m0 w=true):thn (some (mkV w)) f=f w:=by
 unfold mkV;rw[if_pos h]
 rfl
theorem gB{w:Tr}(f:Tr->An)(h: ¬j0 m0 w=true):thn (some (mkV w)) f=some (E2,2):=by
 unfold mkV;rw[if_neg h]
 rfl
def V5(x:An):Prop:= ∀s c,x=some (s,c)->(c=0\/c=1\/c=2)/\(c≠0->s=E2)
theorem V5.no:V5 none:=fun s c h=> by cases h
theorem V5.seq{x:An}{f:Tr->An}(h:V5 x)(k: ∀s,V5 (f s)):V5 (thn x f):=by
 intro s c e;rcases Vp e with⟨t,d,a⟩ |⟨t,i,d,g,a⟩
 · exact k t s c a
 · simp only[cK] at a
   obtain⟨rfl,rfl⟩:=a;exact⟨(h _ _ d).1,fun _=> rfl⟩
theorem V5.ok(s:Tr):V5 (some (s,0)):=fun s c e=> by
 simp only[bW,cK] at e;obtain⟨rfl,rfl⟩:=e;exact⟨.inl rfl,fun h=> absurd rfl h⟩
theorem V5.at{c:Int}(h:c=1\/c=2):V5 (some (E2,c)):=fun s a e=> by
 simp only[bW,cK] at e;obtain⟨rfl,rfl⟩:=e;exact⟨.inr h,fun _=> rfl⟩
theorem V5.mk(t:Tr):V5 (some (mkV t)):=by
 unfold mkV
 split
 · exact V5.ok _
 · exact V5.at (.inr rfl)
theorem V5.shp(t:Tr)(kind:Int):V5 (some (d4 t kind)):=by
 unfold d4
 split
 · exact V5.at (.inr rfl)
 · split
   · exact V5.at (.inl rfl)
   · exact V5.ok _
theorem V5.frm{x:An}(kind:Int)(h:V5 x):V5 (V0 x kind):=h.seq fun _=> V5.shp _ _
theorem kA(a b:Tr):V3 a b=0\/V3 a b=1\/V3 a b=2:=by
 unfold V3
 split
 · exact .inl rfl
 · split
   · exact .inr (.inl rfl)
   · exact .inr (.inr rfl)
theorem V5.chk{x y:An}(w:Tr)(h:V5 x)(k:V5 y):V5 (P3 x w y):=h.seq fun s=> by
 split
 · exact k
 · rename_i a
   exact V5.at ((kA _ _).resolve_left a)
theorem V5.fam{x y:An}(T:Tr)(h:V5 x)(k:V5 y):V5 (da x T y):=(h.frm 3).seq fun s=> by
 split
 · exact(V5.shp _ _).seq fun _=> k
 · rename_i a
   exact V5.at ((kA _ _).resolve_left a)
theorem V5.fin{x:An}(h:V5 x):V5 (thn x fun s=> some (mkV s)):=h.seq fun _=> V5.mk _
theorem V5.ite{p:Prop}[Decidable p]{x y:An}(h:V5 x)(k:V5 y):V5 (if p then x else y):=by
 by_cases e:p
 · rw[if_pos e];exact h
 · rw[if_neg e];exact k
theorem V5.two{p:Prop}[Decidable p](s:Tr):V5 (some (if p then(E2,(1:Int)) else(s,0))):=by
 by_cases e:p
 · rw[if_pos e];exact V5.at (.inl rfl)
 · rw[if_neg e];exact V5.ok _
theorem V5.jud{G:List Tr}{a:List Tr->Tr->An}{ty:Nat->An}(h: ∀G t,V5 (a G t))(k: ∀i,V5 (ty i))(c n:Int)(d:List Tr):V5 (de G a ty c n d):=
 (V5.two _).ite <|(V5.two _).ite <|(V5.ok _).ite <|(V5.ok _).ite <|
 ((k 0).chk _ (V5.ok _)).ite <|
 (((k 0).frm 2).seq fun _=>((k 1).frm 2).seq fun _=> V5.ok _).ite <|
 (((k 0).frm 2).seq fun _=>(k 1).seq fun _=>((h _ _).frm 2).seq fun _=>((h _ _).frm 2).seq fun _=> V5.ok _).ite <|
 (((k 0).frm 3).seq fun _=>(k 1).chk _ (V5.ok _)).ite <|
 ((k 0).fam _ ((k 1).chk _ ((k 2).chk _ ((k 3).chk _ (V5.ok _))))).ite <|
 (((k 0).frm 2).seq fun _=>(k 1).chk _ ((k 2).chk _ (V5.ok _))).ite <|
 ((k 0).seq fun _=>((h _ _).frm 2).seq fun _=> V5.ok _).ite <|
 (((k 1).frm 10).seq fun _=>(k 0).fam _ ((k 2).chk _ (V5.ok _))).ite <|
 (((k 0).frm 2).seq fun _=>(V5.shp _ _).seq fun _=>(k 1).chk _ ((k 2).chk _ (V5.ok _))).ite <|
 ((k 0).frm 13).seq fun _=> V5.ok _
theorem Nl: ∀(f:Nat) (G:List Tr) (t:Tr),V5 (M0 f G t)
 |0,G,t=> V5.no
 |f+1,G,.mk k n a=> by
  have ih:=Nl f;exact(V5.at (.inr rfl)).ite (V5.jud ih (fun i=>(ih _ _).ite (ih _ _)) k n a).fin
theorem Rl.open{x:An}(h:V5 x)(a:b\/Ze x)(hn: ∀s,x≠some (s,0)):Rl b x (some (E2,2)):=by
 intro s c i j d e;simp at e
 obtain⟨rfl,rfl⟩:=e;obtain⟨g,f⟩:=h s c d;rcases g with rfl|rfl|rfl
 · exact absurd d (hn _)
 · rcases a with a|a
   · exact .inr ⟨a,f (by decide),rfl,rfl,rfl⟩
   · exact absurd rfl (a _ _ d)
 · exact .inl ⟨f (by decide),rfl⟩
theorem Ze.seq{x:An}{f:Tr->An}(h:Ze x)(k: ∀s,Ze (f s)):Ze (thn x f):=by
 intro s c e;rcases Vp e with⟨t,d,a⟩ |⟨t,i,d,g,a⟩
 · exact k t s c a
 · simp only[cK] at a
   obtain⟨rfl,rfl⟩:=a;exact h _ _ d
theorem Ze.at{c:Int}{s:Tr}(h:c≠1):Ze (some (s,c)):=fun s a e=> by
 simp only[bW,cK] at e;obtain⟨-,rfl⟩:=e;exact h
theorem Rl.has{x y u v:An}(w:Tr)(h:Rl b x y)(hx:V5 x)(c:b\/j0 m0 w=true\/Ze x)(k:j0 m0 w=true->(∃s,y=some (s,0)/\V3 s w=0)->Rl b u v):Rl b (P3 x w u) (thn (some (mkV w)) fun w=> P3 y w v):=by
 by_cases hv:j0 m0 w=true
 · rw[nj _ hv]
   exact h.chk w (k hv)
 · rw[gB _ hv]
   have a:j0 m0 w=false:=by simpa using hv
   have e:P3 x w u=P3 x w (some (E2,2)):=by
    unfold P3
    congr 1
    funext s
    rw[nu a,if_neg (by decide),if_neg (by decide)]
   rw[e];refine Rl.open (hx.chk _ (V5.at (.inr rfl))) ?_ ?_
   · rcases c with c|c|c
     · exact .inl c
     · exact absurd c hv
     · refine .inr (c.seq fun s=> ?_)
       rw[nu a,if_neg (by decide)];exact Ze.at (by decide)
   · intro s e
     obtain⟨t,-,d,-⟩:=Sg e;rw[nu a] at d;cases d
theorem Sd(x:An)(f g:Tr->An):thn (thn x f) g=thn x fun s=> thn (f s) g:=by
 cases x with
 |none=> rfl
 |some p=>
  obtain⟨s,c⟩:=p;unfold thn;simp only;by_cases h:c=0
  · rw[if_pos h,if_pos h]
  · rw[if_neg h,if_neg h]
    simp only;rw[if_neg h]
theorem Um{p:Prop}[Decidable p](x y:An)(g:Tr->An):thn (if p then x else y) g=if p then thn x g else thn y g:=by
 by_cases h:p
 · rw[if_pos h,if_pos h]
 · rw[if_neg h,if_neg h]
theorem nm{c:Int}(h:c≠0)(s:Tr)(g:Tr->An):thn (some (s,c)) g=some (E2,c):=by
 unfold thn;simp only;rw[if_neg h]
theorem gl(x y:An)(w:Tr)(g:Tr->An):thn (P3 x w y) g=P3 x w (thn y g):=by
 unfold P3;rw[Sd]
 congr 1
 funext s
 by_cases h:V3 s w=0
 · rw[if_pos h,if_pos h]
 · rw[if_neg h,if_neg h,nm h]
theorem sC(x y:An)(T:Tr)(g:Tr->An):thn (da x T y) g=da x T (thn y g):=by
 unfold da;rw[Sd]
 congr 1
 funext s
 by_cases h:V3 (kd s.kids 0) T=0
 · rw[if_pos h,if_pos h,Sd]
 · rw[if_neg h,if_neg h,nm h]
theorem Rl.ite{p:Prop}[Decidable p]{x y u v:An}(h:p->Rl b x u)(k: ¬p->Rl b y v):Rl b (if p then x else y) (if p then u else v):=by
 by_cases e:p
 · rw[if_pos e,if_pos e];exact h e
 · rw[if_neg e,if_neg e];exact k e
theorem Rl.ok(s:Tr)(h:j0 m0 s=true):Rl b (thn (some (s,0)) fun s=> some (mkV s)) (some (s,0)):=by
 show Rl b (some (mkV s)) _
 unfold mkV;rw[if_pos h];exact Rl.rfl' _
theorem dt{n:Int}(a:0<=n)(c:n<=3):j0 m0 (m6 n)=true:=by
 have:n=0\/n=1\/n=2\/n=3:=by omega
 rcases this with rfl|rfl|rfl|rfl <;> decide
theorem jv{x:An}{s:Tr}(h:V0 x 2=some (s,0)):0<=s.num/\s.num<=3:=by
 obtain⟨u,-,e,a⟩:=Ng h;obtain⟨-,-,-,hv⟩:=Qw e;obtain⟨k,n,f⟩:=s;simp only[Tr.kind] at a;subst a;have:=(Z4 (Z3 hv).1);have c:=this.2.1;have d:=this.2.2.1;exact⟨c,d⟩
end
end Go.Proofs.YtckhbnmfnpolgaaGreat
namespace Go.Proofs.YtckhbnmfnpolgaaGreat
open Go.RowKit
open M (Hd HR Cv Ty M2 zc y6 W4)
theorem Zk{t:Tr}(h:j0 m0 t=true): ∃m,t=enc m:=by
 obtain⟨m,e⟩:=Xr _ _ (Z3 h).1;exact⟨m,e.symm⟩
def ccR(f:Nat):List Tr->List Tr->An
 |_, []=> some (E2,0)
 |done,t::ts=> thn (V0 (N0 f done t) 2) fun _=> ccR f (done++ [t]) ts
def Zc(f:Nat)(ctx:List Tr):An:=if Xb ctx=true then ccR f [] ctx else some (E2,3)
def Va(f:Nat)(ctx l:List Tr):An:=match Zc f ctx with
 |none=> none
 |some r=> if l.all (fun t=> j0 m0 t)=true then some r else some (E2,3)
def Uf(f:Nat)(ctx:List Tr)(t:Tr):An:=thn (Va f ctx [t]) fun _=> thn (N0 f ctx t) fun s=> some (s,0)
def fq(f:Nat)(ctx:List Tr)(t a:Tr):An:=thn (Va f ctx [t,a]) fun _=> thn (V0 (N0 f ctx a) 2) fun _=> P3 (N0 f ctx t) a (some (E2,0))
theorem V4.ccR{f a:Nat}(h:f<=a): ∀ts done:List Tr,V4 (ccR f done ts) (ccR a done ts)
 | [],done=> V4.rfl' _
 |t::ts,done=>((Fi h done t).frm 2).thn fun _=> V4.ccR h ts _
theorem nA{f:Nat}: ∀(ts:List Tr) (G:List M.Tm) (u:Tr),X6 G->(∀t∈ts,j0 m0 t=true)->ccR f (ctxE G) ts=some (u,0)-> ∃D,ctxE D=ctxE G++ts/\X6 D
 | [],G,u,hG,hv,h=>⟨G,by simp,hG⟩
 |t::ts,G,u,hG,hv,h=> by
  obtain⟨s,c,a⟩:=v9 h;obtain⟨A,rfl⟩:=Zk (hv t (by simp));obtain⟨S,i,-,-,-,-,b,-⟩:=Ld (snd f) hG (hv _ (by simp)) c;rw[<-md] at a;obtain⟨D,e,d⟩:=nA ts (A::G) u (hG.cons b (hv _ (by simp))) (fun x hx=> hv x (by simp[hx])) a;exact⟨D,by rw[e,md];simp,d⟩
theorem Lv{f:Nat}{ctx:List Tr}{u:Tr}(h:Zc f ctx=some (u,0)): ∃G,ctx=ctxE G/\X6 G/\G.length<=8:=by
 unfold Zc at h
 split at h
 · rename_i hf
   obtain⟨c,d⟩:=mv hf;obtain⟨D,g,a⟩:=nA ctx [] u X6.nil d h;have e:ctx=ctxE D:=by rw[g];simp[ctxE]
   exact⟨D,e,a,by rw[<-y26,<-e];exact c⟩
 · simp at h
theorem Nn{f:Nat}{ctx l:List Tr}{u:Tr}(h:Va f ctx l=some (u,0)):Zc f ctx=some (u,0)/\ ∀t∈l,j0 m0 t=true:=by
 unfold Va at h;cases e:Zc f ctx with
 |none=> rw[e] at h;cases h
 |some r=>
  rw[e] at h;simp only at h
  split at h
  · rename_i hv
    exact⟨h,by simpa using hv⟩
  · simp at h
theorem pz{f:Nat}{ctx:List Tr}{t s:Tr}(h:Uf f ctx t=some (s,0)): ∃G a A,ctx=ctxE G/\X6 G/\G.length<=8/\t=enc a/\j0 m0 t=true/\s=enc A/\Ty G a A/\M2 G a/\j0 m0 s=true/\N0 f ctx t=some (s,0):=by
 obtain⟨u,e,m⟩:=v9 h;obtain⟨n,k⟩:=Nn e;obtain⟨G,rfl,hG,j⟩:=Lv n;have hv:=k t (by simp);obtain⟨a,rfl⟩:=Zk hv;obtain⟨d,c,o⟩:=v9 m;obtain rfl:d=s:=by simpa using o
 obtain⟨A,rfl,l,i,g⟩:=snd f G a _ hG hv c;exact⟨G,a,A,rfl,hG,j,rfl,hv,rfl,l,i,g,c⟩
theorem X6.tail{A:M.Tm}{G:List M.Tm}(h:X6 (A::G)):X6 G/\y6 G A/\j0 m0 (enc A)=true:=
 ⟨⟨fun n B a=> by simpa using h.wf (n+1) B (by simpa using a),fun B a=> h.vd B (by simp[a])⟩,by simpa using h.wf 0 A rfl,h.vd A (by simp)⟩
theorem qk{f:Nat}{G:List M.Tm}{A:M.Tm}(hG:X6 G)(hA:y6 G A)(hv:j0 m0 (enc A)=true):Nb (V0 (N0 f (ctxE G) (enc A)) 2):=by
 obtain⟨c,k,hk,S,a,r⟩:=hA;refine(Ml f G A S hG hv a c).frm fun s e=> ?_
 obtain⟨rfl,-⟩:=Ig hG hv a e;exact⟨S,.sort k,rfl,r,by simp[M.hk],rfl⟩
theorem Kx(f:Nat): ∀(a done d:List Tr),ccR f done (a++d)=thn (ccR f done a) fun _=> ccR f (done++a) d
 | [],done,d=> by simp[ccR,thn]
 |x::a,done,d=> by
  rw[List.cons_append,ccR,ccR];have:=fun s:Tr=> Kx f a (done++ [x]) d
  simp only[List.append_assoc,List.singleton_append] at this;unfold thn;cases V0 (N0 f done x) 2 with
  |none=> rfl
  |some y=>
   obtain⟨s,c⟩:=y;simp only
   split
   · rw[this s]
     rfl
   · rename_i hc
     simp only;rw[if_neg hc]
theorem Lk{f:Nat}: ∀G:List M.Tm,X6 G->Nb (ccR f [] (ctxE G))
 | [],h=> Nb.ok _
 |A::G,h=> by
  obtain⟨a,c,d⟩:=h.tail;rw[md,Kx];refine(Lk G a).thn fun _ _=> ?_
  rw[List.nil_append,ccR];exact(qk a c d).thn fun _ _=> Nb.ok _
theorem wH{G:List M.Tm}(h:X6 G)(a:G.length<=8):Xb (ctxE G)=true:=by
 unfold Xb;rw[Bool.and_eq_true,decide_eq_true_eq,y26];refine⟨a, ?_⟩;simp only[Bool.not_eq_true',List.any_eq_false];intro t ht;unfold ctxE at ht;rw[List.mem_reverse,List.mem_map] at ht;obtain⟨A,hA,rfl⟩:=ht;simp[h.vd A hA]
theorem Lp{f:Nat}{G:List M.Tm}(h:X6 G)(g:G.length<=8){l:List Tr}(hl: ∀t∈l,j0 m0 t=true):Nb (Va f (ctxE G) l):=by
 have a:=Lk (f:=f) G h;unfold Va Zc;rw[if_pos (wH h g)];cases e:ccR f [] (ctxE G) with
 |none=> intro s c d;cases d
 |some r=>
  rw[e] at a;simp only;rw[if_pos (by simpa using hl)];exact a
theorem iz: ∀(ts:List Tr) (G:List M.Tm),X6 G->(∀t∈ts,j0 m0 t=true)-> ∃f,Is (ccR f (ctxE G) ts)
 | [],G,hG,hv=>⟨0,Is.mk _⟩
 |t::ts,G,hG,hv=> by
  have v:=hv t (by simp);obtain⟨A,rfl⟩:=Zk v;obtain⟨a,c⟩:=(tt 20 G (by omega) hG A v).at;by_cases d: ∃f s,V0 (N0 f (ctxE G) (enc A)) 2=some (s,0)
  · obtain⟨g,l,hs⟩:=d
    obtain⟨S,i,-,-,-,-,b,-⟩:=Ld (snd g) hG v hs;obtain⟨k,j⟩:=iz ts (A::G) (hG.cons b v) (fun x hx=> hv x (by simp[hx]));refine⟨a+k,((c _ (by omega)).frm 2).thn fun s _=> ?_⟩;rw[<-md];exact j.le (V4.ccR (by omega) _ _)
  · exact⟨a,((c _ (Nat.le_refl _)).frm 2).thn fun s e=> absurd ⟨a,s,e⟩ d⟩
theorem zE(ctx:List Tr): ∃f,∀a,f<=a->Is (Zc a ctx):=by
 by_cases h:Xb ctx=true
 · obtain⟨f,c⟩:=iz ctx [] X6.nil (mv h).2
   refine⟨f,fun a hf=> ?_⟩;unfold Zc;rw[if_pos h];exact c.le (V4.ccR hf _ _)
 · refine⟨0,fun a _=> ?_⟩
   unfold Zc;rw[if_neg h];exact Is.mk _
theorem JC(ctx l:List Tr): ∃f,∀a,f<=a->Is (Va a ctx l):=by
 obtain⟨f,h⟩:=zE ctx;refine⟨f,fun a hf=> ?_⟩;obtain⟨r,e⟩:=h a hf;unfold Va;rw[e];simp only
 split <;> exact Is.mk _
theorem qt{ctx l:List Tr}{t:Tr}(ht:j0 m0 t=true): ∃f,∀c,f<=c->(∃g u,Va g ctx l=some (u,0))->Is (N0 c ctx t):=by
 by_cases h: ∃g u,Va g ctx l=some (u,0)
 · obtain⟨g,u,d⟩:=h
   obtain⟨G,rfl,hG,-⟩:=Lv (Nn d).1;obtain⟨a,rfl⟩:=Zk ht;obtain⟨f,e⟩:=(tt 20 G (by omega) hG a ht).at;exact⟨f,fun c hf _=> e c hf⟩
 · exact⟨0,fun _ _ k=> absurd k h⟩
theorem PG(ctx:List Tr)(t:Tr): ∃f,∀a,f<=a->Is (Uf a ctx t):=by
 obtain⟨c,d⟩:=JC ctx [t];by_cases hv:j0 m0 t=true
 · obtain⟨g,i⟩:=qt (ctx:=ctx) (l:= [t]) hv
   exact⟨c+g,fun a hf=>(d a (by omega)).thn fun s e=>(i a (by omega) ⟨a,s,e⟩).thn fun _ _=> Is.mk _⟩
 · exact⟨c,fun a hf=>(d a (by omega)).thn fun s e=> absurd ((Nn e).2 t (by simp)) hv⟩
theorem oB(ctx:List Tr)(t a:Tr): ∃f,∀c,f<=c->Is (fq c ctx t a):=by
 obtain⟨d,g⟩:=JC ctx [t,a];by_cases hv:j0 m0 t=true
 · by_cases i:j0 m0 a=true
   · obtain⟨j,k⟩:=qt (ctx:=ctx) (l:= [t,a]) hv
     obtain⟨n,m⟩:=qt (ctx:=ctx) (l:= [t,a]) i;exact⟨d+j+n,fun c hf=>(g c (by omega)).thn fun s e=>((m c (by omega) ⟨c,s,e⟩).frm 2).thn fun _ _=>(k c (by omega) ⟨c,s,e⟩).chk _ (Is.mk _)⟩
   · exact⟨d,fun c hf=>(g c (by omega)).thn fun s e=> absurd ((Nn e).2 a (by simp)) i⟩
 · exact⟨d,fun c hf=>(g c (by omega)).thn fun s e=> absurd ((Nn e).2 t (by simp)) hv⟩
