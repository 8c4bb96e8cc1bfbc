/-
  Lemmas towards the law, 26: InfA, InfS, MCk.
-/
import Derived.Test.YtckhbnmfnpolgaaGreatC00
import Derived.Test.YtckhbnmfnpolgaaGreatCAY
open Go renaming bodyPost_ret->aP,results->aR
open Option.some renaming injEq->bX
open Prod.mk renaming injEq->cO
open Go.Proofs.Tryz
set_option linter.all false
set_option maxHeartbeats 1000000
set_option maxRecDepth 100000
namespace Go.Proofs.YtckhbnmfnpolgaaGreat
open Go.RowKit
theorem Mp{t:Tr}(h:j0 D0 t=true):mkV t=(t,0):=if_pos h
theorem Rm{t:Tr}(h:j0 D0 t=false):mkV t=(j2,2):=if_neg (by rw[h];decide)
theorem Am(t:Tr)(ok:Bool)(a:World)(N:Nat->Prop)(v:Value)(j:InT a N t v):Calls prog 103 #[v,.bool ok] a (q8 N a (if ok=true then mkV t else(j2,2))):=by
 have o:=hdq (fun W (w:Ext a W)=> ro t W v (j.lies'.ext w));have y:=hdq j;obtain⟨z,d⟩: ∃z,j0 D0 t=z:=⟨_,rfl⟩;rw[d] at o;obtain⟨k,n,q⟩:=t;obtain⟨A,cap,rfl,hl,hc,hK⟩:=InT.mk_iff.1 j;clear j;cases ok with
 |false=>
  rw[if_neg (by simp)];clear d;go_enter func103,ntmps103;go_wp2_with fail;exact aP (v:= .tuple #[M0 0 0 none 0 0,m0 2]) (by simp[aR,results103,go_sem]) rfl ⟨_,rfl,d5 _ _ 0 0,(((xr _).alloc _).alloc _)⟩
 |true=>
  rw[if_pos rfl];obtain⟨D,f⟩: ∃x,x=((a.alloc (H0 k n A q.length cap)).alloc (H0 0 0 none 0 0)):=⟨_,rfl⟩;obtain⟨s,r,E,l⟩:=box2 f;cases z with
  |false=>
   rw[Rm d];clear d;go_enter func103,ntmps103;go_wp2_with fail;rw[<-f];clear f;refine(o.out _ l).mono ?_;rintro e u ⟨rfl,c⟩;have C:=c.size;have g:=c;have B:=cb3 (g.blk s);have m:=m9 (g.blk r);have p:=l;have i:=p.trans c;go_wp2_with fail;refine aP (v:= .tuple #[M0 0 0 none 0 0,m0 2]) (by simp[aR,results103,go_sem,m]) rfl ⟨_,rfl,d5 _ _ 0 0,(i.set3 (by omega) _ _ _)⟩
  |true=>
   rw[Mp d];clear d;go_enter func103,ntmps103;go_wp2_with fail;rw[<-f];clear f;refine(o.out _ l).mono ?_;rintro e u ⟨rfl,c⟩;have C:=c.size;have p:=l;have i:=p.trans c;have g:=c;have B:=cb3 (g.blk s);have m:=m9 (g.blk r);go_wp2_with fail;refine aP (v:= .tuple #[M0 k n A q.length cap,m0 0]) (by simp[aR,results103,go_sem,m]) rfl ⟨_,rfl,InT.ret (InT.keep y.out i (show a.heap.size<=a.heap.size+1 from Nat.le_succ _)) _ _ _,(i.set3 (by omega) _ _ _)⟩
theorem cF(a b:Tr)(j:World)(v u:Value)(t:Lies j a v)(w:Lies j b u):Calls prog 80 #[v,u] j fun e F=> e= .returned (m0 (d4 a b))/\Ext j F:=by
 have r:=hdq (fun W (z:Ext j W)=> LJ a b 200 W v u (t.ext z) (w.ext z));obtain⟨c,g⟩: ∃c,Yc a b 200=c:=⟨_,rfl⟩;rw[g] at r;have q:c=1->d4 a b=0:=fun h=> by unfold d4;rw[g,if_pos h]
 have o: ¬c=1->c=2->d4 a b=1:=fun h s=> by unfold d4;rw[g,if_neg h,if_pos s]
 have m: ¬c=1-> ¬c=2->d4 a b=2:=fun h s=> by unfold d4;rw[g,if_neg h,if_neg s]
 generalize d4 a b=R at q o m⊢;clear g;obtain⟨k,n,C⟩:=a;obtain⟨A,cap,rfl,hl,hc,hK⟩:=Lies.mk_iff.1 t;obtain⟨I,D,J⟩:=b;obtain⟨G,H,rfl,B,f,E⟩:=Lies.mk_iff.1 w;clear t w;obtain⟨M,i⟩: ∃x,x=((j.alloc (H0 k n A C.length cap)).alloc (H0 I D G J.length H)):=⟨_,rfl⟩;obtain⟨L,K,N,l⟩:=box2 i;by_cases d:c=1
 · obtain rfl:=q d
   clear q o m;subst d;go_enter func80,ntmps80;go_wp2_with fail;rw[<-i];clear i;refine(r.out _ l).mono ?_;rintro e y ⟨rfl,p⟩;go_wp2_with fail;go_ret;exact⟨rfl,(l.trans p)⟩
 have t1:(c==1)=false:=beq_eq_false_iff_ne.2 d;by_cases f:c=2
 · obtain rfl:=o d f
   clear q o m t1 d;subst f;go_enter func80,ntmps80;go_wp2_with fail;rw[<-i];clear i;refine(r.out _ l).mono ?_;rintro e y ⟨rfl,p⟩;go_wp2_with fail;go_ret;exact⟨rfl,(l.trans p)⟩
 have t2:(c==2)=false:=beq_eq_false_iff_ne.2 f;obtain rfl:=m d f;clear q o m d f;go_enter func80,ntmps80;go_wp2_with fail;rw[<-i];clear i;refine(r.out _ l).mono ?_;rintro e y ⟨rfl,p⟩;go_wp2_with fail;go_ret;exact⟨rfl,(l.trans p)⟩
theorem Qz(t:Tr)(kind:Int)(m:World)(N:Nat->Prop)(hN: ∀b,m.heap.size<=b->N b)(v:Value)(Q:Lies m t v):Calls prog 83 #[v,m0 kind] m (q8 N m (i4 t kind)):=by
 have M:=hdq (fun W (hW:Ext m W)=> rG t 200 W v (Q.ext hW));have S:=hdq hN;obtain⟨⟨⟨d,w,p⟩,c⟩,L⟩: ∃q,W6 t 200=q:=⟨_,rfl⟩;rw[L] at M;have H: ¬c=0->i4 t kind=(j2,2):=fun h=> by unfold i4;rw[L,if_pos h]
 have D:c=0-> ¬d=kind->i4 t kind=(j2,1):=fun h T=> by unfold i4;rw[L,if_neg (by simpa using h)];exact if_pos T
 have J:c=0->d=kind->i4 t kind=(.mk d w p,0):=fun h T=> by unfold i4;rw[L,if_neg (by simpa using h)];exact if_neg (fun P=> P T)
 generalize i4 t kind=R at H D J⊢;clear hN L;obtain⟨k,n,Z⟩:=t;obtain⟨A,cap,rfl,hl,hc,hK⟩:=Lies.mk_iff.1 Q;clear Q;obtain⟨w1,y⟩: ∃x,x=((m.alloc (H0 k n A Z.length cap)).alloc (H0 0 0 none 0 0)):=⟨_,rfl⟩;obtain⟨U,B,s1,o⟩:=box2 y;by_cases a:c=0
 · by_cases hk:d=kind
   · obtain rfl:=J a hk
     subst a;subst hk;clear H D J;have t1:(d !=d)=false:=by simp
     go_enter func83,ntmps83;go_wp2_with fail;rw[<-y];clear y;refine(M.out _ o).mono ?_;rintro e f ⟨r,rfl,s,l⟩;have X:=l.size;have i:InT f (fun b=> N b/\b≠m.heap.size+1) (.mk d w p) r:=s.at' (Ia S.out o.size (by omega));obtain⟨C,z,rfl,Y,E,g⟩:=InT.mk_iff.1 i;have O:=hdq i;clear i s g;have j:=l;have V:=cb3 (j.blk U);have F:=cbn (j.blk B);have u:Ext f (f.alloc (H0 d w C p.length z)):=(xr f).alloc _;have G:=o;have K:=G.trans l;have I:=cbn (u.blk (j.blk B));go_wp2_with fail;refine aP (v:= .tuple #[M0 d w C p.length z,m0 0]) (by simp[aR,results83,go_sem,F,I]) rfl ⟨_,rfl,InT.ret (InT.later O.out ((xr _).alloc _)) _ _ _,((((K.trans u).setCell (by simp;try omega) _).setCell (by simp;try omega) _).setCell (by simp;try omega) _)⟩
   · obtain rfl:=D a hk
     subst a;clear H D J;have t1:(d !=kind)=true:=by simp[hk]
     clear hk;go_enter func83,ntmps83;go_wp2_with fail;rw[<-y];clear y;refine(M.out _ o).mono ?_;rintro e f ⟨r,rfl,s,l⟩;have X:=l.size;have i:InT f (fun b=> N b/\b≠m.heap.size+1) (.mk d w p) r:=s.at' (Ia S.out o.size (by omega));obtain⟨C,z,rfl,Y,E,g⟩:=InT.mk_iff.1 i;have O:=hdq i;clear i s g;have j:=l;have V:=cb3 (j.blk U);have F:=cbn (j.blk B);have u:Ext f (f.alloc (H0 d w C p.length z)):=(xr f).alloc _;have G:=o;have K:=G.trans l;have I:=cbn (u.blk (j.blk B));go_wp2_with fail;refine aP (v:= .tuple #[M0 0 0 none 0 0,m0 1]) (by simp[aR,results83,go_sem,F,I]) rfl ⟨_,rfl,d5 _ _ 0 0,((((K.trans u).setCell (by simp;try omega) _).setCell (by simp;try omega) _).setCell (by simp;try omega) _)⟩
 · obtain rfl:=H a
   clear H D J;have t1:(c !=0)=true:=by simp[a]
   clear a;go_enter func83,ntmps83;go_wp2_with fail;rw[<-y];clear y;refine(M.out _ o).mono ?_;rintro e f ⟨r,rfl,s,l⟩;have X:=l.size;have i:InT f (fun b=> N b/\b≠m.heap.size+1) (.mk d w p) r:=s.at' (Ia S.out o.size (by omega));obtain⟨C,z,rfl,Y,E,g⟩:=InT.mk_iff.1 i;have O:=hdq i;clear i s g;have j:=l;have V:=cb3 (j.blk U);have F:=cbn (j.blk B);have u:Ext f (f.alloc (H0 d w C p.length z)):=(xr f).alloc _;have G:=o;have K:=G.trans l;have I:=cbn (u.blk (j.blk B));go_wp2_with fail;refine aP (v:= .tuple #[M0 0 0 none 0 0,m0 2]) (by simp[aR,results83,go_sem,F,I]) rfl ⟨_,rfl,d5 _ _ 0 0,((((K.trans u).setCell (by simp;try omega) _).setCell (by simp;try omega) _).setCell (by simp;try omega) _)⟩
theorem ip(n:Int)(w:World):Calls prog 140 #[m0 n] w fun e a=> e= .returned (M0 2 n none 0 0)/\Ext w a:=by
 go_enter func140,ntmps140;go_wp2_with fail;exact aP (v:= M0 2 n none 0 0) (by simp[aR,results140,go_sem]) rfl ⟨rfl,(xr w).alloc _⟩
theorem uD(t:Tr)(c:World)(N:Nat->Prop)(v:Value)(r:InT c N t v):Calls prog 146 #[v] c fun e q=> ∃u,e= .returned u/\InT q N (kd t.kids 0) u/\Ext c q:=by
 obtain⟨k,n,a⟩:=t;obtain⟨A,cap,rfl,hl,hc,hK⟩:=InT.mk_iff.1 r;have f:=hc;unfold maxLen at f;have y:(Tr.mk k n a).kids=a:=rfl;rw[y];clear r y;by_cases g:a.length=0
 · have G:kd a 0=j2:=Uj (by omega)
   rw[G];generalize a.length=len at g hl;subst g;go_enter func146,ntmps146;go_wp2_with fail;exact aP (v:= M0 0 0 none 0 0) (by simp[aR,results146,go_sem]) rfl ⟨_,rfl,d5 _ _ 0 0,(((xr _).alloc _).alloc _)⟩
 · have hx:=((xr c).alloc (H0 k n A a.length cap)).alloc (H0 0 0 none 0 0)
   obtain⟨b,o,s,p,F,H,q16,rfl,w,l,m,d,M,m1,I,B,C,K⟩:=hK.get (fun b _=> rfl) (j:=0) (by omega);simp only[Nat.zero_mul,Nat.add_zero] at l m d;have J:=hx.cell l;have L:=hx.cell m;have O:=hx.cell d;have z:kd a 0= .mk s p q16:=be (by omega) w.out;rw[z];have x:(0:Int) <(a.length:Int):=by omega
   have i:0 < a.length:=by omega
   have D:(((a.length:Int))==0)=false:=beq_eq_false_iff_ne.2 (by omega);have E:=hdq B;clear z w hK I B C g l m d;go_enter func146,ntmps146;go_wp2_with fail;refine aP (v:= M0 s p F q16.length H) (by simp[aR,results146,go_sem]) rfl ⟨_,rfl,InT.later E.out ?_, ?_⟩
   all_goals exact(((xr _).alloc _).alloc _)
def ia(a:List Tr->Tr->An)(G:List Tr)(k:Int)(c:List Tr)(i:Nat):An:=if E4 k i=0 then a G (kd c i) else a (G++ [kd c 0]) (kd c i)
def Wo(a:List Tr->Tr->An)(G:List Tr)(ty:Nat->An)(A:Tr):An:=thn (X0 (ty 0) 2) fun _=> thn (ty 1) fun b=> thn (X0 (a G A) 2) fun _=> thn (X0 (a (G++ [A]) b) 2) fun _=> some (.mk 3 0 [A,b],0)
def On(ty:Nat->An)(a:Tr):An:=thn (X0 (ty 0) 3) fun s=> W3 (ty 1) (kd s.kids 0) (some (Z0 a (kd s.kids 1) 0 0,0))
def Vo(ty:Nat->An)(p a:Tr):An:=v9 (ty 0) n5 (W3 (ty 1) (.mk 5 0 [p,.mk 7 0 []]) (W3 (ty 2) (Sb p) (W3 (ty 3) n5 (some (.mk 5 0 [p,a],0)))))
def Dq(c:Tr->An)(ty:Nat->An)(a:Tr):An:=thn (ty 0) fun s=> thn (X0 (c s) 2) fun _=> some (.mk 10 0 [s,a,a],0)
def zp(ty:Nat->An)(p:Tr):An:=thn (X0 (ty 1) 10) fun e=> v9 (ty 0) (kd e.kids 0) (W3 (ty 2) (.mk 5 0 [p,kd e.kids 1]) (some (.mk 5 0 [p,kd e.kids 2],0)))
def Xp(ty:Nat->An)(T a:Tr):An:=thn (X0 (ty 0) 2) fun _=> thn (some (i4 T 13)) fun s=> W3 (ty 1) (kd s.kids 0) (W3 (ty 2) (Z0 a (kd s.kids 1) 0 0) (some (T,0)))
def jj(ty:Nat->An)(k:Int)(a:Tr):An:=thn (X0 (ty 0) 13) fun s=> some (if k=15 then kd s.kids 0 else Z0 (.mk 15 0 [a]) (kd s.kids 1) 0 0,0)
def Mr(G:List Tr)(n:Int):Tr×Int:=if(G.length:Int)<=n then(j2,1) else(shfT (n+1) (kd G (G.length - 1 - n.toNat)) 0,0)
def ke(G:List Tr)(c:List Tr->Tr->An)(ty:Nat->An)(k n:Int)(a:List Tr):An:=
 if k=1 then some (Mr G n)
 else if k=2 then some (if 3<=n then(j2,1) else(m6 (n+1),0))
 else if k=6 then some (m6 0,0)
 else if k=7 then some (n5,0)
 else if k=8 then W3 (ty 0) n5 (some (n5,0))
 else if k=3\/k=13 then te ty
 else if k=4 then Wo c G ty (kd a 0)
 else if k=5 then On ty (kd a 1)
 else if k=9 then Vo ty (kd a 0) (kd a 3)
 else if k=10 then Oe ty (kd a 0)
 else if k=11 then Dq (c G) ty (kd a 0)
 else if k=12 then zp ty (kd a 0)
 else if k=14 then Xp ty (kd a 0) (kd a 1)
 else jj ty k (kd a 0)
def Q0:Nat->List Tr->Tr->An
 |0,_,_=> none
 |f+1,G,.mk k n ks=> if j0 D0 (.mk k n ks)=false\/20 < G.length then some (j2,2) else thn (ke G (Q0 f) (ia (Q0 f) G k ks) k n ks) fun s=> some (mkV s)
def Rl(b:Prop)(x y:An):Prop:= ∀s c a d,x=some (s,c)->y=some (a,d)->(s=a/\c=d)\/(b/\s=j2/\a=j2/\c=1/\d=2)
def vf(x:An):Prop:= ∀s c,x=some (s,c)->c≠1
section
variable {b : Prop}
theorem Rl.rfl'(x:An):Rl b x x:=fun s c e d h a=> by rw[h] at a;simp only[bX,cO] at a;exact .inl a
theorem Rl.no(y:An):Rl b none y:=fun s c a d h=> by cases h
theorem Rl.no'(x:An):Rl b x none:=fun s c a d _ h=> by cases h
theorem Rl.seq{x y:An}{f g:Tr->An}(h:Rl b x y)(k: ∀s,x=some (s,0)->y=some (s,0)->Rl b (f s) (g s)):Rl b (thn x f) (thn y g):=by
 cases x with
 |none=> exact Rl.no _
 |some p=>
  cases y with
  |none=> exact Rl.no' _
  |some q=>
   obtain⟨s,c⟩:=p;obtain⟨d,e⟩:=q;rcases h s c d e rfl rfl with⟨rfl,rfl⟩ |⟨j,rfl,rfl,rfl,rfl⟩
   · unfold thn
     simp only
     split
     · rename_i hc
       subst hc;exact k s rfl rfl
     · exact Rl.rfl' _
   · intro s c d e i a
     simp[thn] at i a
     obtain⟨rfl,rfl⟩:=i;obtain⟨rfl,rfl⟩:=a;exact .inr ⟨j,rfl,rfl,rfl,rfl⟩
theorem Rl.frm{x y:An}(kind:Int)(h:Rl b x y):Rl b (X0 x kind) (X0 y kind):=h.seq fun _ _ _=> Rl.rfl' _
theorem Rl.chk{x y u v:An}(w:Tr)(h:Rl b x y)(k:(∃s,y=some (s,0)/\d4 s w=0)->Rl b u v):Rl b (W3 x w u) (W3 y w v):=h.seq fun s _ e=> by
 split
 · rename_i a
   exact k ⟨s,e,a⟩
 · exact Rl.rfl' _
theorem Rl.fam{x y u v:An}(T:Tr)(h:Rl b x y)(k:(∃s,X0 y 3=some (s,0))->Rl b u v):Rl b (v9 x T u) (v9 y T v):=(h.frm 3).seq fun s _ e=> by
 split
 · exact(Rl.rfl' _).seq fun _ _ _=> k ⟨s,e⟩
 · exact Rl.rfl' _
theorem Vw{s w:Tr}(h:j0 D0 w=false):d4 s w=2:=by
 unfold d4 Yc;simp[h]
theorem oj{w:Tr}(f:Tr->An)(h:j0 D0 w=true):thn (some (mkV w)) f=f w:=by
 unfold mkV;rw[if_pos h]
 rfl
theorem NB{w:Tr}(f:Tr->An)(h: ¬j0 D0 w=true):thn (some (mkV w)) f=some (j2,2):=by
 unfold mkV;rw[if_neg h]
 rfl
def b6(x:An):Prop:= ∀s c,x=some (s,c)->(c=0\/c=1\/c=2)/\(c≠0->s=j2)
theorem b6.no:b6 none:=fun s c h=> by cases h
theorem b6.seq{x:An}{f:Tr->An}(h:b6 x)(k: ∀s,b6 (f s)):b6 (thn x f):=by
 intro s c e;rcases Ao e with⟨t,d,a⟩ |⟨t,i,d,g,a⟩
 · exact k t s c a
 · simp only[cO] at a
   obtain⟨rfl,rfl⟩:=a;exact⟨(h _ _ d).1,fun _=> rfl⟩
theorem b6.ok(s:Tr):b6 (some (s,0)):=fun s c e=> by
 simp only[bX,cO] at e;obtain⟨rfl,rfl⟩:=e;exact⟨.inl rfl,fun h=> absurd rfl h⟩
theorem b6.at{c:Int}(h:c=1\/c=2):b6 (some (j2,c)):=fun s a e=> by
 simp only[bX,cO] at e;obtain⟨rfl,rfl⟩:=e;exact⟨.inr h,fun _=> rfl⟩
theorem b6.mk(t:Tr):b6 (some (mkV t)):=by
 unfold mkV
 split
 · exact b6.ok _
 · exact b6.at (.inr rfl)
theorem b6.shp(t:Tr)(kind:Int):b6 (some (i4 t kind)):=by
 unfold i4
 split
 · exact b6.at (.inr rfl)
 · split
   · exact b6.at (.inl rfl)
   · exact b6.ok _
theorem b6.frm{x:An}(kind:Int)(h:b6 x):b6 (X0 x kind):=h.seq fun _=> b6.shp _ _
theorem UD(a b:Tr):d4 a b=0\/d4 a b=1\/d4 a b=2:=by
 unfold d4
 split
 · exact .inl rfl
 · split
   · exact .inr (.inl rfl)
   · exact .inr (.inr rfl)
theorem b6.chk{x y:An}(w:Tr)(h:b6 x)(k:b6 y):b6 (W3 x w y):=h.seq fun s=> by
 split
 · exact k
 · rename_i a
   exact b6.at ((UD _ _).resolve_left a)
theorem b6.fam{x y:An}(T:Tr)(h:b6 x)(k:b6 y):b6 (v9 x T y):=(h.frm 3).seq fun s=> by
 split
 · exact(b6.shp _ _).seq fun _=> k
 · rename_i a
   exact b6.at ((UD _ _).resolve_left a)
theorem b6.fin{x:An}(h:b6 x):b6 (thn x fun s=> some (mkV s)):=h.seq fun _=> b6.mk _
theorem b6.ite{p:Prop}[Decidable p]{x y:An}(h:b6 x)(k:b6 y):b6 (if p then x else y):=by
 by_cases e:p
 · rw[if_pos e];exact h
 · rw[if_neg e];exact k
theorem b6.two{p:Prop}[Decidable p](s:Tr):b6 (some (if p then(j2,(1:Int)) else(s,0))):=by
 by_cases e:p
 · rw[if_pos e];exact b6.at (.inl rfl)
 · rw[if_neg e];exact b6.ok _
theorem b6.jud{G:List Tr}{a:List Tr->Tr->An}{ty:Nat->An}(h: ∀G t,b6 (a G t))(k: ∀i,b6 (ty i))(c n:Int)(d:List Tr):b6 (ke G a ty c n d):=
 (b6.two _).ite <|(b6.two _).ite <|(b6.ok _).ite <|(b6.ok _).ite <|
 ((k 0).chk _ (b6.ok _)).ite <|
 (((k 0).frm 2).seq fun _=>((k 1).frm 2).seq fun _=> b6.ok _).ite <|
 (((k 0).frm 2).seq fun _=>(k 1).seq fun _=>((h _ _).frm 2).seq fun _=>((h _ _).frm 2).seq fun _=> b6.ok _).ite <|
 (((k 0).frm 3).seq fun _=>(k 1).chk _ (b6.ok _)).ite <|
 ((k 0).fam _ ((k 1).chk _ ((k 2).chk _ ((k 3).chk _ (b6.ok _))))).ite <|
 (((k 0).frm 2).seq fun _=>(k 1).chk _ ((k 2).chk _ (b6.ok _))).ite <|
 ((k 0).seq fun _=>((h _ _).frm 2).seq fun _=> b6.ok _).ite <|
 (((k 1).frm 10).seq fun _=>(k 0).fam _ ((k 2).chk _ (b6.ok _))).ite <|
 (((k 0).frm 2).seq fun _=>(b6.shp _ _).seq fun _=>(k 1).chk _ ((k 2).chk _ (b6.ok _))).ite <|
 ((k 0).frm 13).seq fun _=> b6.ok _
theorem Tn: ∀(f:Nat) (G:List Tr) (t:Tr),b6 (Q0 f G t)
 |0,G,t=> b6.no
 |f+1,G,.mk k n a=> by
  have ih:=Tn f;exact(b6.at (.inr rfl)).ite (b6.jud ih (fun i=>(ih _ _).ite (ih _ _)) k n a).fin
theorem Rl.open{x:An}(h:b6 x)(a:b\/vf x)(hn: ∀s,x≠some (s,0)):Rl b x (some (j2,2)):=by
 intro s c i j d f;simp at f
 obtain⟨rfl,rfl⟩:=f;obtain⟨g,e⟩:=h s c d;rcases g with rfl|rfl|rfl
 · exact absurd d (hn _)
 · rcases a with a|a
   · exact .inr ⟨a,e (by decide),rfl,rfl,rfl⟩
   · exact absurd rfl (a _ _ d)
 · exact .inl ⟨e (by decide),rfl⟩
theorem vf.seq{x:An}{f:Tr->An}(h:vf x)(k: ∀s,vf (f s)):vf (thn x f):=by
 intro s c e;rcases Ao e with⟨t,d,a⟩ |⟨t,i,d,g,a⟩
 · exact k t s c a
 · simp only[cO] at a
   obtain⟨rfl,rfl⟩:=a;exact h _ _ d
theorem vf.at{c:Int}{s:Tr}(h:c≠1):vf (some (s,c)):=fun s a e=> by
 simp only[bX,cO] at e;obtain⟨-,rfl⟩:=e;exact h
theorem Rl.has{x y u v:An}(w:Tr)(h:Rl b x y)(hx:b6 x)(c:b\/j0 D0 w=true\/vf x)(k:j0 D0 w=true->(∃s,y=some (s,0)/\d4 s w=0)->Rl b u v):Rl b (W3 x w u) (thn (some (mkV w)) fun w=> W3 y w v):=by
 by_cases hv:j0 D0 w=true
 · rw[oj _ hv]
   exact h.chk w (k hv)
 · rw[NB _ hv]
   have a:j0 D0 w=false:=by simpa using hv
   have e:W3 x w u=W3 x w (some (j2,2)):=by
    unfold W3
    congr 1
    funext s
    rw[Vw a,if_neg (by decide),if_neg (by decide)]
   rw[e];refine Rl.open (hx.chk _ (b6.at (.inr rfl))) ?_ ?_
   · rcases c with c|c|c
     · exact .inl c
     · exact absurd c hv
     · refine .inr (c.seq fun s=> ?_)
       rw[Vw a,if_neg (by decide)];exact vf.at (by decide)
   · intro s e
     obtain⟨t,-,d,-⟩:=ti e;rw[Vw a] at d;cases d
theorem Yd(x:An)(f g:Tr->An):thn (thn x f) g=thn x fun s=> thn (f s) g:=by
 cases x with
 |none=> rfl
 |some p=>
  obtain⟨s,c⟩:=p;unfold thn;simp only;by_cases h:c=0
  · rw[if_pos h,if_pos h]
  · rw[if_neg h,if_neg h]
    simp only;rw[if_neg h]
theorem Um{p:Prop}[Decidable p](x y:An)(g:Tr->An):thn (if p then x else y) g=if p then thn x g else thn y g:=by
 by_cases h:p
 · rw[if_pos h,if_pos h]
 · rw[if_neg h,if_neg h]
theorem Wm{c:Int}(h:c≠0)(s:Tr)(g:Tr->An):thn (some (s,c)) g=some (j2,c):=by
 unfold thn;simp only;rw[if_neg h]
theorem Sl(x y:An)(w:Tr)(g:Tr->An):thn (W3 x w y) g=W3 x w (thn y g):=by
 unfold W3;rw[Yd]
 congr 1
 funext s
 by_cases h:d4 s w=0
 · rw[if_pos h,if_pos h]
 · rw[if_neg h,if_neg h,Wm h]
theorem GB(x y:An)(T:Tr)(g:Tr->An):thn (v9 x T y) g=v9 x T (thn y g):=by
 unfold v9;rw[Yd]
 congr 1
 funext s
 by_cases h:d4 (kd s.kids 0) T=0
 · rw[if_pos h,if_pos h,Yd]
 · rw[if_neg h,if_neg h,Wm h]
theorem Rl.ite{p:Prop}[Decidable p]{x y u v:An}(h:p->Rl b x u)(k: ¬p->Rl b y v):Rl b (if p then x else y) (if p then u else v):=by
 by_cases e:p
 · rw[if_pos e,if_pos e];exact h e
 · rw[if_neg e,if_neg e];exact k e
theorem Rl.ok(s:Tr)(h:j0 D0 s=true):Rl b (thn (some (s,0)) fun s=> some (mkV s)) (some (s,0)):=by
 show Rl b (some (mkV s)) _
 unfold mkV;rw[if_pos h];exact Rl.rfl' _
theorem Vu{n:Int}(a:0<=n)(c:n<=3):j0 D0 (m6 n)=true:=by
 have:n=0\/n=1\/n=2\/n=3:=by omega
 rcases this with rfl|rfl|rfl|rfl <;> decide
theorem ru{x:An}{s:Tr}(h:X0 x 2=some (s,0)):0<=s.num/\s.num<=3:=by
 obtain⟨u,-,e,a⟩:=We h;obtain⟨-,-,-,hv⟩:=Hx e;obtain⟨k,n,f⟩:=s;simp only[Tr.kind] at a;subst a;have:=(Z4 (Z3 hv).1);have d:=this.2.1;have c:=this.2.2.1;exact⟨d,c⟩
end
end Go.Proofs.YtckhbnmfnpolgaaGreat
namespace Go.Proofs.YtckhbnmfnpolgaaGreat
open Go.RowKit
open M (Hd HR Cv Ty Lim Wb y6 U4)
theorem Ol{t:Tr}(h:j0 D0 t=true): ∃m,t=enc m:=by
 obtain⟨m,e⟩:=ku _ _ (Z3 h).1;exact⟨m,e.symm⟩
def ccR(f:Nat):List Tr->List Tr->An
 |_, []=> some (j2,0)
 |done,t::ts=> thn (X0 (S0 f done t) 2) fun _=> ccR f (done++ [t]) ts
def ccV(f:Nat)(ctx:List Tr):An:=if Ob ctx=true then ccR f [] ctx else some (j2,3)
def ra(f:Nat)(ctx l:List Tr):An:=match ccV f ctx with
 |none=> none
 |some r=> if l.all (fun t=> j0 D0 t)=true then some r else some (j2,3)
def Yb(f:Nat)(ctx:List Tr)(t:Tr):An:=thn (ra f ctx [t]) fun _=> thn (S0 f ctx t) fun s=> some (s,0)
def Nq(f:Nat)(ctx:List Tr)(t a:Tr):An:=thn (ra f ctx [t,a]) fun _=> thn (X0 (S0 f ctx a) 2) fun _=> W3 (S0 f ctx t) a (some (j2,0))
theorem S4.ccR{f a:Nat}(h:f<=a): ∀ts done:List Tr,S4 (ccR f done ts) (ccR a done ts)
 | [],done=> S4.rfl' _
 |t::ts,done=>((Uk h done t).frm 2).thn fun _=> S4.ccR h ts _
theorem S4.ccV{f a:Nat}(h:f<=a)(ctx:List Tr):S4 (ccV f ctx) (ccV a ctx):=by
 unfold Go.Proofs.YtckhbnmfnpolgaaGreat.ccV
 split
 · exact S4.ccR h _ _
 · exact S4.rfl' _
theorem RC{f:Nat}: ∀(ts:List Tr) (G:List M.Tm) (u:Tr),O6 G->(∀t∈ts,j0 D0 t=true)->ccR f (ctxE G) ts=some (u,0)-> ∃D,ctxE D=ctxE G++ts/\O6 D
 | [],G,u,hG,hv,h=>⟨G,by simp,hG⟩
 |t::ts,G,u,hG,hv,h=> by
  obtain⟨s,e,a⟩:=M8 h;obtain⟨A,rfl⟩:=Ol (hv t (by simp));obtain⟨S,i,-,-,-,-,b,-⟩:=Sd (snd f) hG (hv _ (by simp)) e;rw[<-yd] at a;obtain⟨D,c,d⟩:=RC ts (A::G) u (hG.cons b (hv _ (by simp))) (fun x hx=> hv x (by simp[hx])) a;exact⟨D,by rw[c,yd];simp,d⟩
theorem Us{f:Nat}{ctx:List Tr}{u:Tr}(h:ccV f ctx=some (u,0)): ∃G,ctx=ctxE G/\O6 G/\G.length<=8:=by
 unfold ccV at h
 split at h
 · rename_i hf
   obtain⟨g,c⟩:=Fr hf;obtain⟨D,d,a⟩:=RC ctx [] u O6.nil c h;have e:ctx=ctxE D:=by rw[d];simp[ctxE]
   exact⟨D,e,a,by rw[<-q28,<-e];exact g⟩
 · simp at h
theorem tl{f:Nat}{ctx l:List Tr}{u:Tr}(h:ra f ctx l=some (u,0)):ccV f ctx=some (u,0)/\ ∀t∈l,j0 D0 t=true:=by
 unfold ra at h;cases e:ccV f ctx with
 |none=> rw[e] at h;cases h
 |some r=>
  rw[e] at h;simp only at h
  split at h
  · rename_i hv
    exact⟨h,by simpa using hv⟩
  · simp at h
theorem Vm{f:Nat}{ctx:List Tr}{t s:Tr}(h:Yb f ctx t=some (s,0)): ∃G a A,ctx=ctxE G/\O6 G/\G.length<=8/\t=enc a/\j0 D0 t=true/\s=enc A/\Ty G a A/\Lim G a/\j0 D0 s=true/\S0 f ctx t=some (s,0):=by
 obtain⟨u,n,i⟩:=M8 h;obtain⟨e,g⟩:=tl n;obtain⟨G,rfl,hG,h8⟩:=Us e;have hv:=g t (by simp);obtain⟨a,rfl⟩:=Ol hv;obtain⟨k,c,l⟩:=M8 i;obtain rfl:k=s:=by simpa using l
 obtain⟨A,rfl,m,j,d⟩:=snd f G a _ hG hv c;exact⟨G,a,A,rfl,hG,h8,rfl,hv,rfl,m,j,d,c⟩
theorem O6.tail{A:M.Tm}{G:List M.Tm}(h:O6 (A::G)):O6 G/\y6 G A/\j0 D0 (enc A)=true:=
 ⟨⟨fun n B hB=> by simpa using h.wf (n+1) B (by simpa using hB),fun B hB=> h.vd B (by simp[hB])⟩,by simpa using h.wf 0 A rfl,h.vd A (by simp)⟩
theorem Zj{f:Nat}{G:List M.Tm}{A:M.Tm}(hG:O6 G)(hA:y6 G A)(hv:j0 D0 (enc A)=true):Nb (X0 (S0 f (ctxE G) (enc A)) 2):=by
 obtain⟨c,k,hk,S,a,r⟩:=hA;refine(Fk f G A S hG hv a c).frm fun s e=> ?_
 obtain⟨rfl,-⟩:=Mg hG hv a e;exact⟨S,.sort k,rfl,r,by simp[M.hk],rfl⟩
theorem kB(f:Nat): ∀(a done d:List Tr),ccR f done (a++d)=thn (ccR f done a) fun _=> ccR f (done++a) d
 | [],done,d=> by simp[ccR,thn]
 |x::a,done,d=> by
  rw[List.cons_append,ccR,ccR];have:=fun s:Tr=> kB f a (done++ [x]) d
  simp only[List.append_assoc,List.singleton_append] at this;unfold thn;cases X0 (S0 f done x) 2 with
  |none=> rfl
  |some y=>
   obtain⟨s,c⟩:=y;simp only
   split
   · rw[this s]
     rfl
   · rename_i hc
     simp only;rw[if_neg hc]
theorem Qk{f:Nat}: ∀G:List M.Tm,O6 G->Nb (ccR f [] (ctxE G))
 | [],h=> Nb.ok _
 |A::G,h=> by
  obtain⟨a,c,d⟩:=h.tail;rw[yd,kB];refine(Qk G a).thn fun _ _=> ?_
  rw[List.nil_append,ccR];exact(Zj a c d).thn fun _ _=> Nb.ok _
theorem CF{G:List M.Tm}(h:O6 G)(h8:G.length<=8):Ob (ctxE G)=true:=by
 unfold Ob;rw[Bool.and_eq_true,decide_eq_true_eq,q28];refine⟨h8, ?_⟩;simp only[Bool.not_eq_true',List.any_eq_false];intro t ht;unfold ctxE at ht;rw[List.mem_reverse,List.mem_map] at ht;obtain⟨A,hA,rfl⟩:=ht;simp[h.vd A hA]
theorem RA{f:Nat}{G:List M.Tm}(h:O6 G)(h8:G.length<=8){l:List Tr}(hl: ∀t∈l,j0 D0 t=true):Nb (ra f (ctxE G) l):=by
 have a:=Qk (f:=f) G h;unfold ra ccV;rw[if_pos (CF h h8)];cases e:ccR f [] (ctxE G) with
 |none=> intro s c d;cases d
 |some r=>
  rw[e] at a;simp only;rw[if_pos (by simpa using hl)];exact a
theorem oC: ∀(ts:List Tr) (G:List M.Tm),O6 G->(∀t∈ts,j0 D0 t=true)-> ∃f,Is (ccR f (ctxE G) ts)
 | [],G,hG,hv=>⟨0,Is.mk _⟩
 |t::ts,G,hG,hv=> by
  have v:=hv t (by simp);obtain⟨A,rfl⟩:=Ol v;obtain⟨a,c⟩:=(Zt 20 G (by omega) hG A v).at;by_cases d: ∃f s,X0 (S0 f (ctxE G) (enc A)) 2=some (s,0)
  · obtain⟨k,l,hs⟩:=d
    obtain⟨S,i,-,-,-,-,b,-⟩:=Sd (snd k) hG v hs;obtain⟨j,g⟩:=oC ts (A::G) (hG.cons b v) (fun x hx=> hv x (by simp[hx]));refine⟨a+j,((c _ (by omega)).frm 2).thn fun s _=> ?_⟩;rw[<-yd];exact g.le (S4.ccR (by omega) _ _)
  · exact⟨a,((c _ (Nat.le_refl _)).frm 2).thn fun s e=> absurd ⟨a,s,e⟩ d⟩
theorem cI(ctx:List Tr): ∃f,∀a,f<=a->Is (ccV a ctx):=by
 by_cases h:Ob ctx=true
 · obtain⟨f,c⟩:=oC ctx [] O6.nil (Fr h).2
   refine⟨f,fun a hf=> ?_⟩;unfold ccV;rw[if_pos h];exact c.le (S4.ccR hf _ _)
 · refine⟨0,fun a _=> ?_⟩
   unfold ccV;rw[if_neg h];exact Is.mk _
theorem zD(ctx l:List Tr): ∃f,∀a,f<=a->Is (ra a ctx l):=by
 obtain⟨f,h⟩:=cI ctx;refine⟨f,fun a hf=> ?_⟩;obtain⟨r,e⟩:=h a hf;unfold ra;rw[e];simp only
 split <;> exact Is.mk _
theorem kt{ctx l:List Tr}{t:Tr}(ht:j0 D0 t=true): ∃f,∀c,f<=c->(∃g u,ra g ctx l=some (u,0))->Is (S0 c ctx t):=by
 by_cases h: ∃g u,ra g ctx l=some (u,0)
 · obtain⟨g,u,e⟩:=h
   obtain⟨G,rfl,hG,-⟩:=Us (tl e).1;obtain⟨a,rfl⟩:=Ol ht;obtain⟨f,d⟩:=(Zt 20 G (by omega) hG a ht).at;exact⟨f,fun c hf _=> d c hf⟩
 · exact⟨0,fun _ _ k=> absurd k h⟩
theorem So(ctx:List Tr)(t:Tr): ∃f,∀a,f<=a->Is (Yb a ctx t):=by
 obtain⟨c,d⟩:=zD ctx [t];by_cases hv:j0 D0 t=true
 · obtain⟨g,i⟩:=kt (ctx:=ctx) (l:= [t]) hv
   exact⟨c+g,fun a hf=>(d a (by omega)).thn fun s e=>(i a (by omega) ⟨a,s,e⟩).thn fun _ _=> Is.mk _⟩
 · exact⟨c,fun a hf=>(d a (by omega)).thn fun s e=> absurd ((tl e).2 t (by simp)) hv⟩
theorem SA(ctx:List Tr)(t a:Tr): ∃f,∀c,f<=c->Is (Nq c ctx t a):=by
 obtain⟨d,g⟩:=zD ctx [t,a];by_cases hv:j0 D0 t=true
 · by_cases i:j0 D0 a=true
   · obtain⟨k,m⟩:=kt (ctx:=ctx) (l:= [t,a]) hv
     obtain⟨j,n⟩:=kt (ctx:=ctx) (l:= [t,a]) i;exact⟨d+k+j,fun c hf=>(g c (by omega)).thn fun s e=>((n c (by omega) ⟨c,s,e⟩).frm 2).thn fun _ _=>(m c (by omega) ⟨c,s,e⟩).chk _ (Is.mk _)⟩
   · exact⟨d,fun c hf=>(g c (by omega)).thn fun s e=> absurd ((tl e).2 a (by simp)) i⟩
 · exact⟨d,fun c hf=>(g c (by omega)).thn fun s e=> absurd ((tl e).2 t (by simp)) hv⟩
