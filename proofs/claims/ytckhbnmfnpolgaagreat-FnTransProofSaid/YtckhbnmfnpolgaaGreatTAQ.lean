/- Lemmas towards the law. -/
import Derived.Test.YtckhbnmfnpolgaaGreatTAP
open List renaming length_set->gZ,take_append_getElem->gN,map_toArray->gW,take_append_drop->jQ,length_cons->bX
open Go renaming World->aN,Value->aU,heap_alloc_new->aT,bodyPost_ret->aQ,results->aS,TypeId->bU
open Nat renaming zero_le->cO,le_refl->aP,lt_of_lt_of_le->aZ
open Go.RowKit.Below renaming heap_setCell->aM
open Prod.mk renaming injEq->cQ
open Go.Proofs.Tryz
set_option linter.all false
set_option maxHeartbeats 4000000
set_option maxRecDepth 100000
namespace Go.Proofs.YtckhbnmfnpolgaaGreat
open Go.RowKit
attribute [local go_sem ↓] Go.wp_at_zero Go.wp_at_succ
theorem lG:(prog.info? 25).map (fun i=>(i.zero,i.size,i.bytes))=some (some (m0 0 0 none 0 0),3,40):=by kernel_rfl
theorem AG{a:List Tr}{j m:Nat}(x:Tr)(h:j < a.length)(b:j≠m):(a.set m x).take (j+1)=(a.set m x).take j++ [a[j]]:=by
 have c:j <(a.set m x).length:=by rw[gZ];exact h
 rw[<-gN c,List.getElem_set_ne (by omega)]
theorem mJ{a:List Tr}{m:Nat}(x:Tr)(h:m < a.length):(a.set m x).take (m+1)=(a.set m x).take m++ [x]:=by
 have b:m <(a.set m x).length:=by rw[gZ];exact h
 rw[<-gN b,List.getElem_set_self]
theorem qH(k n:Int)(a:List Tr)(kid:Tr)(m:Nat)(t:Nat->Prop)(w:aN)(v vk:aU)(d6:Lies w (.mk k n a) v)(Gz: ∀b,t b->b < w.heap.size)(J5:InT w t kid vk)(hm:m < a.length)(P9:cnt (.mk k n a)<=1000000):
 Calls prog 101 #[v,.int .i64 m,vk] w fun e E=> ∃x,e= .returned x/\InT E (fun b=> t b\/w.heap.size+4<=b/\b < E.heap.size) (.mk k n (a.set m kid)) x/\Ext w E:=by
 obtain⟨A,cap,rfl,hl,hc,hK⟩:=Lies.mk_iff.1 d6;obtain⟨N,M,J,K,G,rfl⟩:=Lies.three (InT.mono Gz (fun _ _=> rfl) J5);obtain⟨i0,hi,hz0,hz1,hz2⟩:=info_parts lG;have hcc:=hc;unfold maxLen at hcc;simp only[cnt] at P9;have hlc:=Tg a;go_enter func101,ntmps101;go_wp2_with fail;obtain⟨c,R⟩: ∃c,c=((w.alloc (.cells #[.int .i64 k,.int .i64 n,.slice A a.length cap] 25)).alloc (.cells #[.int .i64 N,.int .i64 M,.slice J K G] 25)).alloc (.cells #[.int .i64 0,.int .i64 0,.slice none 0 0] 25):=⟨_,rfl⟩;obtain⟨W,T⟩: ∃W,W=c.alloc (.cells #[.int .i64 k,.int .i64 n,.slice none 0 0] 25):=⟨_,rfl⟩;have Z:c.heap.size=w.heap.size+3:=by rw[R];simp
 have om:W.heap.size=w.heap.size+4:=by rw[T];simp;omega
 have C0:Ext w c:=R▸(((xr w).alloc _).alloc _).alloc _;have dy:Ext c W:=T▸(xr c).alloc _;obtain⟨S5,Mj,F6,-⟩:c.heap[w.heap.size]? =some (.cells #[.int .i64 k,.int .i64 n,.slice A a.length cap] 25 (0,0))/\c.heap[w.heap.size+1]? =some (.cells #[.int .i64 N,.int .i64 M,.slice J K G] 25 (0,0))/\c.heap[w.heap.size+1+1]? =some (.cells #[.int .i64 0,.int .i64 0,.slice none 0 0] 25 (0,0))/\True:=by
  rw[R];exact⟨(ad (xr _)).1,(ad (xr _)).2.1,(ad (xr _)).2.2.1,trivial⟩
 have gp:W.heap[w.heap.size+1+1+1]? =some (.cells #[.int .i64 k,.int .i64 n,.slice none 0 0] 25 (0,0)):=by
  have:=aT c (.cells #[.int .i64 k,.int .i64 n,.slice none 0 0] 25);rw[Z] at this;rw[T];exact this
 rw[<-R,<-T];have hsWa:w.heap.size+4<=W.heap.size:=by omega
 have hsWb:W.heap.size<=w.heap.size+4:=by omega
 have hs1a:w.heap.size+3<=c.heap.size:=by omega
 have hs1b:c.heap.size<=w.heap.size+3:=by omega
 clear T R om Z;have s: ∀b,((b < w.heap.size/\ ¬t b)\/w.heap.size<=b/\b < W.heap.size)->b < W.heap.size:=fun b f=> by rcases f with f|f <;> omega
 go_loopw [8] (fun i wr=> ∃(j:Nat) (v:aU),j<=a.length/\i= .int .i64 j/\wr.heap[w.heap.size+1+1+1]? =some (.cells #[.int .i64 k,.int .i64 n,v] 25 (0,0))/\ja (fun b=>(b < w.heap.size/\ ¬t b)\/w.heap.size<=b/\b < W.heap.size) W wr 25 v ((a.set m kid).take j)/\Ext c wr/\W.heap.size<=wr.heap.size) (fun i _=> a.length -(intOf i).toNat)
 case atStart=> exact⟨0,_,cO _,rfl,gp,ja.nil _ _ _ _,dy,aP _⟩
 case round=>
  obtain⟨j,v,hj,rfl,B,hG,z,V⟩:=hrel;by_cases D:j < a.length
  · have p:((a.set m kid).take j).length < 1099511627776:=by rw[List.length_take];omega
    obtain⟨-,-,t2,-,-,-⟩:=own3 (z.blk S5);obtain⟨u0,u1,u2,-,-,-⟩:=own3 (z.blk Mj);have hj':(j:Int) <(a.length:Int):=by omega
    have hv:=E1 B 2;have zm:=mc B 2;have g: ∀q,v.ownBlock=some q->W.heap.size<=q/\q < wr.heap.size:=by
     obtain⟨xs,g1,-⟩:=hG;exact fun q hq=> g1.lt q hq
    have ql:=hdq g;have hwrb:w.heap.size+1+1+1 < wr.heap.size:=D1 B;have B7:w.heap.size+1 < wr.heap.size:=by omega
    by_cases El:j=m
    · subst El
      have hjb:((j:Int)==(j:Int))=true:=by simp
      have F:=mJ kid D;have jc:=hdq F;have I:=(xr wr).alloc (.cells #[.int .i64 N,.int .i64 M,.slice J K G] 25);have hGk:=hG.ext I;have hTk:InT (wr.alloc (.cells #[.int .i64 N,.int .i64 M,.slice J K G] 25)) (fun b=> b <(wr.alloc (.cells #[.int .i64 N,.int .i64 M,.slice J K G] 25)).heap.size/\v.ownBlock≠some b/\ ¬((b < w.heap.size/\ ¬t b)\/w.heap.size<=b/\b < W.heap.size)) kid (.agg #[.int .i64 N,.int .i64 M,.slice J K G]):=InT.mono (fun y d=> by
       have h2:y < w.heap.size:=Gz y d;exact⟨by simp;omega,fun hh=> by have:=(ql.out y hh).1;omega,fun hx=> by rcases hx with hx|hx;exact hx.2 d;omega⟩) (fun y d=>((C0.trans z).trans I).heap y (Gz y d)) J5
      have HBV:=hdq (I.blk B);have HG:=hdq hGk;have HT:=hdq hTk;clear g hG hGk hTk F B;go_wp2_with (at_builtin;refine JF _ rfl (.tmp 25) (.tmp 27) _ (by rfl) 25 i0 _ underlying23 hi hz0 hz1 hz2 rfl (by rfl) (W:=W) HG.out (by have:=I.size;omega) HT.out (by rfl) (aT _ _) p ?_ s)
      intro v' C r H;have X6:Ext c C:=(z.trans I).trans' H (by omega);have hs5:=H.size;have Y:=(H.block (w.heap.size+1+1+1) (by omega)).trans HBV.out;rw[<-jc.out] at r;obtain⟨B5,c5,rfl,-,-,-,-⟩:=r.lies s;obtain⟨l5,S⟩: ∃l,((a.set j kid).take (j+1)).length=l:=⟨_,rfl⟩;rw[S] at r⊢;clear S;have Jt:W.heap.size<=C.heap.size:=by have:=I.size;omega
      have ln:=E1 Y 2;have un:=mc Y 2;have Dx:=hdq r;clear hv zm t2 u0 u1 u2 r p;go_wp2_with fail
      go_roundw
      case rel=> exact⟨j+1,_,by omega,by go_num,b6 Y 2 _,Dx.out.only (i1.one C (w.heap.size+1+1+1) 2 _) (by intro b f;rw[List.mem_singleton.1 f];exact .inr ⟨by omega,by omega⟩) s,X6.setCell (by show _<=w.heap.size+1+1+1;omega) _,by simpa using Jt⟩
      case measure=> simp[intOf];omega
    · have hjb:((j:Int)==(m:Int))=false:=beq_eq_false_iff_ne.2 (by omega)
      obtain⟨b,o,k',n',A',cap',kids,rfl,HK,c0,c1,c2,I7,I6,hK',x9,i7⟩:=hK.get (C0.trans z) D;have F:=AG kid D El;rw[HK.out] at F;have jc:=hdq F;have hcm:=ya i7;have x8:Ext wr wr.drew:=(xr wr).drew;have T9:=x9.ext x8;have p9: ∀E,Below W.heap.size wr E->E.heap[w.heap.size+1+1+1]? =some (.cells #[.int .i64 k,.int .i64 n,v] 25 (0,0)):=fun E hB=>(hB.block (w.heap.size+1+1+1) (by omega)).trans B
      have j9:=hdq p9;have HG:=hdq hG;go_wp2_with fail;clear p9 B hG g F hcc u0 u1 u2
      go_region_law (first|(go_simp;go_at_call 46;refine(Sf _ _ _ T9 (by omega)).mono ?_;rintro e w4 ⟨u,rfl,hM,P⟩;obtain⟨a1,a2,a3,a4,a5,rfl⟩:=hM.three';have O:=E1 (j9.out _ ((x8.trans P).below V)) 2;have kh:=World.block_lt_of_cell? _ _ O) |(refine XK _ (by rfl) (.tmp 31) (.tmp 38) _ (by rfl) 25 i0 _ underlying23 hi hz0 hz1 hz2 rfl (by rfl) (X:=fun b=>(b < w.heap.size/\ ¬t b)\/w.heap.size<=b/\b < W.heap.size) (W:=W) (tr:= .mk k' n' kids) (HG.out.ext ((x8.trans P).trans ((xr w4).alloc _))) (by have:=(x8.trans P).size;simp;omega) (InT.mono (fun y d=>⟨by have Q:=d.2;simp;omega,fun hh=> by have Q:wr.heap.size<=y:=d.1;have:=(ql.out y hh).2;omega,by have Q:wr.heap.size<=y:=d.1;omega⟩) (fun y d=>((xr w4).alloc _).heap y d.2) (E2.made hM)) (by rfl) (aT _ _) p ?_ s;intro v' C r H;obtain⟨B5,c5,rfl,-,-,-,-⟩:=r.lies s;obtain⟨l5,S⟩: ∃l,((a.set m kid).take j++ [Tr.mk k' n' kids]).length=l:=⟨_,rfl⟩;rw[S] at r⊢;clear S;have L:Below W.heap.size wr C:=(((x8.trans P).trans ((xr w4).alloc _)).below V).trans H;have ln:=E1 (j9.out _ L) 2;have un:=mc (j9.out _ L) 2))
      all_goals(
       have X6:Ext c C:=z.trans' L (by omega);have hs5:=L.size;have Y:=j9.out _ L;rw[<-jc.out] at r;have Dx:=hdq r;clear O kh hv j9 hM P c0 c1 c2 t2 r H L zm;go_wp2_with fail
       go_roundw
       case rel=> exact⟨j+1,_,by omega,by go_num,b6 Y 2 _,Dx.out.only (i1.one C (w.heap.size+1+1+1) 2 _) (by intro b f;rw[List.mem_singleton.1 f];exact .inr ⟨by omega,by omega⟩) s,X6.setCell (by show _<=w.heap.size+1+1+1;omega) _,by simp;omega⟩
       case measure=> simp[intOf];omega)
  · have lh:(a.set m kid).take j=a.set m kid:=List.take_of_length_le (by rw[gZ];omega)
    rw[lh] at hG;obtain⟨r0,r1,r2,-,-,-⟩:=own3 B;obtain⟨-,-,t2,-,-,-⟩:=own3 (z.blk S5);obtain⟨s0,s1,s2,f0,f1,f2⟩:=own3 (z.blk F6);have hGr:=fun(x0 x1 x2:aU)=>((hG.only (i1.one _ (w.heap.size+1+1) 0 x0) (by intro b f;rw[List.mem_singleton.1 f];exact .inr ⟨by omega,by omega⟩) s).only (i1.one _ (w.heap.size+1+1) 1 x1) (by intro b f;rw[List.mem_singleton.1 f];exact .inr ⟨by omega,by omega⟩) s).only (i1.one _ (w.heap.size+1+1) 2 x2) (by intro b f;rw[List.mem_singleton.1 f];exact .inr ⟨by omega,by omega⟩) s
    obtain⟨Bv,cv,rfl,q1,q2,-,-⟩:=hG.lies s;have Cc:=hdq hGr;have Dp:=C0.trans z;clear hGr hG lh B;go_wp2_with fail;refine aQ (v:= .agg #[.int .i64 k,.int .i64 n,.slice Bv a.length cv]) (by simp[aS,results101,go_sem,s0,s1,s2]) rfl ⟨_,rfl, ?_, ?_⟩
    · obtain⟨Bv',cv',zo,q1',q2',hKK,-⟩:=(Cc.out (.int .i64 k) (.int .i64 n) (.slice Bv a.length cv)).lies s
      simp only[Value.slice.injEq,true_and] at zo;obtain⟨rfl,rfl⟩:=zo;have Jw:=InK.mono (S':=fun b=> t b\/w.heap.size+4<=b/\b <(((wr.setCell ⟨w.heap.size+1+1,0,none⟩ (.int .i64 k)).setCell ⟨w.heap.size+1+1,1,none⟩ (.int .i64 n)).setCell ⟨w.heap.size+1+1,2,none⟩ (.slice Bv a.length cv)).heap.size) (fun y d=> by
       have h8:=d.1;have Q: ¬((y < w.heap.size/\ ¬t y)\/w.heap.size<=y/\y < W.heap.size):=d.2;by_cases U:t y
       · exact .inl U
       · refine .inr ⟨?_,h8⟩
         by_cases h7:y < w.heap.size
         · exact absurd (.inl ⟨h7,U⟩) Q
         · have: ¬(w.heap.size<=y/\y < W.heap.size):=fun h=> Q (.inr h)
           omega) (fun _ _=> rfl) hKK
      exact InT.mk_iff.2 ⟨_,_,by rw[gZ],by rw[gZ];simpa using q1,q2,Jw⟩
    · exact((Dp.setCell (by show _<=w.heap.size+1+1;omega) _).setCell (by show _<=w.heap.size+1+1;omega) _).setCell (by show _<=w.heap.size+1+1;omega) _
theorem bJ(k n:Int)(c:List Tr)(kid:Tr)(m B:Nat)(w:aN)(v f:aU)(p:Lies w (.mk k n c) v)(j:E2 B w kid f)(q:B<=w.heap.size)(hm:m < c.length)(l:cnt (.mk k n c)<=1000000):
 Calls prog 101 #[v,j0 m,f] w fun e d=> ∃x,e= .returned x/\E2 B d (.mk k n (c.set m kid)) x/\Ext w d:=
 (qH k n c kid m (fun b=> B<=b/\b < w.heap.size) w v f p (fun b a=> a.2) j hm l).mono fun e d ⟨x,o,i,g⟩=>⟨x,o,InT.mono (fun b a=> by
  have:=g.size;rcases a with a|a
  · exact⟨a.1,by have:=a.2;omega⟩
  · exact⟨by have:=a.1;omega,a.2⟩) (fun _ _=> rfl) i,g⟩
theorem xD:(prog.info? 25).map (fun i=>(i.zero,i.size,i.bytes))=some (some (m0 0 0 none 0 0),3,40):=by kernel_rfl
theorem DL{P:Program}(w:aN){ops:Array Oper}{rest:List Oper}{o:Oper}{a:Act}{Q:Exit->Act->aN->Prop}(y:o.guard=none)(s x:Operand)(t:bU)
 (D:o.op= .call {callee:= .builtin .append,args:=#[s,x],argTypes:=#[t,t]})
 (base:Nat) (e:bU) (i:TypeInfo) (z:aU) (ht:P.underlying t=some (.slice e)) (hi:P.info? e=some i) (C:i.zero=some z) (c:i.size=3) (A:i.bytes=40) (q:z.cells.size=3)
 {v:aU} {r:Addr} {m cap:Nat} {l:List aU} (hs:a.eval s=v) (f:w.ownsRow base e 3 v 0 []) (b:base<=w.heap.size) (hx:a.eval x= .slice (some r) m cap)
 (hl:l.length=m*3) (d: ∀j u,l[j]? =some u->w.cell? (r.add j)=some u) (G: ∀u∈l,u.oneCell'=true) (hm:m<=1048576)
 (h: ∀n k,k.ownsRow base e 3 n m l->w.grownBy k v.ownBlock->(∀g,n.ownBlock=some g->v.ownBlock=some g\/w.heap.size<=g)->wpList P ops Q rest (a.put o.dst n) k):wpList P ops Q (o::rest) a w:=by
 refine wpList_plain y fun K p=> ?_
 obtain⟨n,k,hr,B,E,F⟩:=Oo (P:=P) w base t o.type e i z 3 40 ht hi C c A q (by decide) v 0 [] f r m cap l hl d G (by unfold maxLen;omega) (by omega) b;rw[Nat.zero_add,List.nil_append] at B;unfold Oper.wp execOp;simp only[D,resolve,invoke,builtin,Sem.run_bind,Sem.run_pure,Result.andThen_ok,gW,List.map_cons,List.map_nil,hs,hx,hr];exact p _ _ (h n k B E F)
def sH(w:aN)(N:Nat->Prop)(d:List Tr)(e:Ending)(a:aN):Prop:= ∃v c,e= .returned v/\a.ownsRow w.heap.size 25 3 v d.length c/\W1 a (fun b=> N b/\b < w.heap.size) c d/\Ext w a
theorem WA(a:List Tr)(w:aN)(N:Nat->Prop)(A:Option Addr)(cap:Nat)(hK:InK w N A a)(hn:a.length<=1048576):Calls prog 179 #[.slice A a.length cap] w (sH w N a):=by
 obtain⟨z,hi,i,m,n⟩:=info_parts xD;have d: ∀W,(binOp .eql 23 (.slice A a.length cap) (.slice none 0 0)).run prog W= .ok (.bool A.isNone) W:=fun W=> Lib.run_eql_slice_nil W 23 _ A a.length cap 0 0 underlying23
 cases A with
 |none=>
  have y:a= []:=by
   rcases hK with h|⟨b,o,h,-⟩
   · exact h
   · cases h
  subst y;simp only[List.length_nil,Option.isNone_none] at d⊢;go_enter func179,ntmps179;go_wp2_with fail;go_ret;exact⟨_, [],rfl,World.ownsRow_nil _ _ _ _,W1.nil,xr _⟩
 |some D=>
  have hx:=(xr w).alloc (.cells #[] 25);have hG:(w.alloc (.cells #[] 25)).ownsRow w.heap.size 25 3 (.slice (some ⟨w.heap.size,0,none⟩) 0 0) 0 []:=World.ownsRow_lit w #[] 0 (aP _) (cO _) rfl;obtain⟨c,l,e,p,g⟩: ∃c:List aU,c.length=a.length*3/\(∀j u,c[j]? =some u->(w.alloc (.cells #[] 25)).cell? (D.add j)=some u)/\(∀u∈c,u.oneCell'=true)/\W1 w (fun b=> N b/\b < w.heap.size) c a:=by
   rcases hK.bound with rfl|⟨b,o,h,f,C⟩
   · exact⟨[],rfl,fun j u h=> by simp at h,fun u h=> by simp at h,W1.nil⟩
   · obtain⟨c,l,e,p,g⟩:=C.rowL
     simp only[Option.some.injEq] at h;subst h;exact⟨c,l,fun j u q=> by rw[Addr.add_lit];exact hx.cell (e j u q),p,g⟩
  have r:=hdq e;have B:=hdq g;simp only[Option.isNone_some] at d;clear hK e g;go_enter func179,ntmps179;go_wp2_with (at_builtin;go_loud (refine DL _ rfl (.tmp 5) (.tmp 6) 23 rfl w.heap.size 25 z _ underlying23 hi i m n rfl (v:= .slice (some ⟨w.heap.size,0,none⟩) 0 0) rfl hG (by simp) rfl l r.out p hn ?_))
  intro E s t x F;have hE:Ext w s:=hx.grown x (by intro k hk;simp[Value.ownBlock] at hk;omega);go_wp2_with fail;go_ret;exact⟨E,c,rfl,t,B.out.mono (fun b f=> f) (fun b f=> hE.heap b f.2),hE⟩
theorem OL{P:Program}(w:aN){ops:Array Oper}{o:Oper}{a:Act}{K:Act->aN->Prop}{Q:Exit->Act->aN->Prop}{E:Prop}(y:o.guard=none)(s x:Operand)(t:bU)
 (H:o.op= .call {callee:= .builtin .append,args:=#[s,x],argTypes:=#[t,t]})
 (e:bU) (i:TypeInfo) (z:aU) (ht:P.underlying t=some (.slice e)) (hi:P.info? e=some i) (D:i.zero=some z) (j:i.size=3) (A:i.bytes=40) (u:z.cells.size=3)
 {X:Nat->Prop} {W:aN} {v:aU} {n:List Tr} {tr:Tr} {v0 v1 v2:aU} {q:Nat} (hs:a.eval s=v) (hG:ja X W w e v n) (M:W.heap.size<=w.heap.size)
 (hT:InT w (fun b=> b < w.heap.size/\v.ownBlock≠some b/\ ¬X b) tr (.agg #[v0,v1,v2]))
 (hx:a.eval x= .slice (some ⟨q,0,none⟩) 1 1) (p:w.heap[q]? =some (.cells #[v0,v1,v2] e (0,0))) (hn:n.length < 1099511627776)
 (h: ∀k c,ja X W c e k (n++ [tr])->Below W.heap.size w c->w.grownBy c v.ownBlock->(∀g,k.ownBlock=some g->v.ownBlock=some g\/w.heap.size<=g)->K (a.put o.dst k) c):
 if Region.wanted o (yielded ops a.tmps)=true then Oper.wp P o a w K Q else E:=by
 have G:Region.wanted o (yielded ops a.tmps)=true:=by simp[Region.wanted,y]
 rw[if_pos G];obtain⟨I,r,L⟩:=hG;obtain⟨k,c,hr,J,d,C⟩:=Oo (P:=P) w W.heap.size t o.type e i z 3 40 ht hi D j A u (by decide) v n.length I r ⟨q,0,none⟩ 1 1 [v0,v1,v2] rfl (SF p) (kC hT) (by unfold maxLen;omega) (by omega) M;have N:Below W.heap.size w c:=⟨d.os,d.tape,d.output,d.size,fun b f=> d.block b (by omega) (fun l=> by have:=(r.lt b l.symm).1;omega)⟩;have hS: ∀b,b < w.heap.size/\v.ownBlock≠some b/\ ¬X b->b < c.heap.size/\k.ownBlock≠some b/\ ¬X b:=fun b f=> by
  refine⟨aZ f.1 d.size,fun l=> ?_,f.2.2⟩;rcases C b l with B|B
  · exact f.2.1 B
  · omega
 have m: ∀b,b < w.heap.size/\v.ownBlock≠some b/\ ¬X b->c.heap[b]? =w.heap[b]? :=fun b f=> d.block b f.1 (fun l=> f.2.1 l.symm)
 have F:ja X W c e k (n++ [tr]):=⟨_,by simpa using J,W1.snoc (hT.mono hS m) [] r.1 (L.mono hS m)⟩;unfold Oper.wp execOp;simp only[H,resolve,invoke,builtin,Sem.run_bind,Sem.run_pure,Result.andThen_ok,gW,List.map_cons,List.map_nil,hs,hx,hr];exact h k c F N d C
theorem ja.keep{X:Nat->Prop}{W w c:aN}{e:bU}{v:aU}{f:List Tr}(h:ja X W w e v f)(hs:w.heap.size<=c.heap.size)(hk: ∀b,b < w.heap.size-> ¬X b->c.heap[b]? =w.heap[b]?)(j: ∀b,v.ownBlock=some b-> ¬X b):ja X W c e v f:=by
 obtain⟨g,d,i⟩:=h;exact⟨g,xA d (fun b a=> hk b (d.lt b a).2 (j b a)),i.mono (fun b a=>⟨aZ a.1 hs,a.2.1,a.2.2⟩) (fun b a=> hk b a.1 a.2.2)⟩
theorem ja.liesX{X:Nat->Prop}{W w:aN}{e:bU}{v:aU}{a:List Tr}(h:ja X W w e v a)(k: ∀b,v.ownBlock=some b-> ¬X b): ∃A cap,v= .slice A a.length cap/\a.length<=cap/\cap<=maxLen/\InK w (fun b=> b < w.heap.size/\ ¬X b) A a:=by
 obtain⟨q,p,m⟩:=h;rcases p.2 with⟨rfl,o⟩ |⟨g,cap,c,rfl,d,j,l,f,n,ht⟩
 · have:a= []:=List.eq_nil_of_length_eq_zero o
   subst this;exact⟨none,0,rfl,aP _,cO _,.inl rfl⟩
 · refine⟨_,cap,rfl,l,f,.inr ⟨g,0,rfl,⟨D1 j,k g rfl⟩, ?_⟩⟩
   have i:=W1.tail (c.toList.drop (a.length*3)) (m.mono (S':=fun b=> b < w.heap.size/\ ¬X b) (fun b d=>⟨d.1,d.2.2⟩) (fun _ _=> rfl));rw[<-ht,jQ] at i;exact W1.inL j (pre:= []) i (by simp)
theorem ja.widen{X c:Nat->Prop}{W w:aN}{e:bU}{v:aU}{d:List Tr}(h:ja X W w e v d)(g: ∀b,b < w.heap.size-> ¬X b-> ¬c b):ja c W w e v d:=by
 obtain⟨f,j,i⟩:=h;exact⟨f,j,i.mono (fun b a=>⟨a.1,a.2.1,g b a.1 a.2.2⟩) (fun _ _=> rfl)⟩
inductive MR:Tr->Tr->Prop where
 |kind {k n y:Int} {ks:List Tr}:y∈ [(0:Int),17,1,5,6]->MR (.mk k n ks) (.mk y n ks)
 |num {k n y:Int} {ks:List Tr}:y∈ [(21:Int),-1,1,9223372036854775807]->MR (.mk k n ks) (.mk k y ks)
 |more {k n:Int} {ks:List Tr}:MR (.mk k n ks) (.mk k n (ks++ [.mk 7 0 []]))
 |succ {t:Tr}:MR t (.mk 8 0 [t])
 |var {k n:Int} {ks:List Tr}:ks≠ []->MR (.mk k n ks) (.mk k n (ks.set 0 (.mk 1 25 [])))
 |same {t:Tr}:MR t t
theorem oJ:(prog.info? 25).map (fun i=>(i.zero,i.size,i.bytes))=some (some (m0 0 0 none 0 0),3,40):=by kernel_rfl
theorem iH(t:Tr)(w:aN)(g m:Nat)(v:aU)(d6:Lies w t v)(D4:cnt t<=900000)(hR:Rd w g m)(hm:m < 900000):Calls prog 70 #[O2 g,v] w fun e w'=> ∃t' u,e= .returned u/\(cnt t'<=cnt t+1/\MR t t')/\E2 w.heap.size w' t' u/\Rd w' g (m+2)/\i1 [g] w w':=by
 have E:=hR.lt;obtain⟨k,n,a⟩:=t;have HC:=hdq (fun W (hW:Ext w W)=> VI k n a W v (d6.ext hW) (by omega));obtain⟨A,cap,rfl,hl,hc,hK⟩:=Lies.mk_iff.1 d6;have hlc:=Tg a;simp only[cnt] at D4;have Z:=((xr w).alloc (D0 k n A a.length cap)).alloc M0;obtain⟨b30,Ho,hs0⟩:=blk2 (xr ((w.alloc (D0 k n A a.length cap)).alloc M0));clear d6 hK hl hc b30;go_enter func70,ntmps70;go_wp2_with fail;generalize (w.alloc _).alloc _=w0 at Z Ho hs0;refine(HC.out _ Z).mono ?_;rintro e w1 ⟨B,c,rfl,⟨W,hW0,Lc,hW1⟩,e1⟩;have hx2:=e1.trans ((xr w1).alloc (D0 k n B a.length c));obtain⟨w2,Q⟩: ∃w2,w2=w1.alloc (D0 k n B a.length c):=⟨_,rfl⟩;have Gg:w2.heap[w1.heap.size]? =some (D0 k n B a.length c):=Q▸aT w1 _;have I5:ja (fun b=> b < W.heap.size\/b=w1.heap.size) W w2 25 (.slice B a.length c) a:=Q▸(Lc.widen (fun b f hn h=> by rcases h with h|h;exact hn h;omega)).ext ((xr w1).alloc _);have l: ∀q,(Value.slice B a.length c).ownBlock=some q->W.heap.size<=q/\q < w1.heap.size:=by
  obtain⟨xs,q1,-⟩:=Lc;exact fun q hq=>⟨(q1.lt q hq).1,(q1.lt q hq).2⟩
 rw[<-Q] at hx2;have Ie:=hx2.blk Ho;have hs2:w1.heap.size < w2.heap.size:=D1 Gg;obtain⟨d,x6⟩: ∃d,d=w1.heap.size:=⟨_,rfl⟩;have hW5:W.heap.size<=d:=by omega
 rw[<-x6] at I5 l;go_wp2_with fail;rw[<-Q];rw[<-x6] at Gg⊢;clear Q Lc HC Ho;refine(Qf _ g m 50 (hR.ext (Z.trans hx2)) (by omega)).mono ?_;rintro e j ⟨x,rfl,hx50,-,N,W7⟩;have T:i1 [g] w j:=(oE (Z.trans hx2)).trans W7;have hw15:w.heap.size+1 < d:=by have:=D1 Ie;have:=e1.size;omega
 have O:=W7.keepBlk Ie (by simp;omega);have s:=W7.keepBlk Gg (by simp;omega);have Gn: ∀q,(Value.slice B a.length c).ownBlock=some q-> ¬(q < W.heap.size\/q=d):=fun q hq h=> by have:=l q hq;omega
 have rk:=I5.keep W7.size (fun b f hn=> W7.block b f (fun hm=> hn (.inl (by rw[List.mem_singleton.1 hm];omega)))) Gn;have hgx4:d < j.heap.size:=D1 s;clear Ie Gg I5 hR W7 hs2 x6;obtain⟨B',c',xj,T3,M,hKs⟩:=rk.liesX Gn;cases xj
 have HK:=hdq (show∀w':aN,j.heap.size<=w'.heap.size->(∀b,W.heap.size<=b->b≠d->b < j.heap.size->w'.heap[b]? =j.heap[b]?)->Tc (w.heap.size+2) w' B a from fun w' Y P=> hKs.mono (fun b f=>⟨by omega,by omega⟩) (fun b f=> P b (by omega) (by omega) f.1));have HG:=hdq rk;have pk:=hdq Gn;have HOW:=hdq l;clear hKs rk Gn l;by_cases h0:x=0
 · subst h0
   have C:=(xr j).alloc (.cells #[j0 0,j0 17,j0 1,j0 5,j0 6] 3);obtain⟨z0,z1,z2,q0,q1,q2⟩:=own3 s;go_wp2_with fail;refine(Qq _ g _ (N.ext C) (by omega) _ 5 [0,17,1,5,6] (by simp) (by decide) (by simp) (aE rfl) (by intro b o f;simp at f;have:=T.size;omega)).mono ?_;rintro e F ⟨y,rfl,hy,qw,D⟩;have HY:=hdq hy;clear hy;have ri:=(T.trans (oE (L:= [g]) C)).trans D;have V:=D.keepBlk (C.blk O) (by simp;omega);have xc:=D.keepBlk (C.blk s) (by simp;omega);have Do:j.heap.size<=F.heap.size:=by have:=C.size;have:=D.size;omega
   have xp:=HK.out (F.setCell ⟨d,0,none⟩ (j0 y)) (by simpa using Do) (fun b Y P h3=>(aM _ _ _ _ (by show b≠d;exact P)).trans ((D.block b (by have:=C.size;omega) (by simp;omega)).trans (C.heap b h3)));have Fv:=fe V (p:=⟨d,0,none⟩) (by show w.heap.size+1≠d;omega) (j0 y);have Fb:=b6 xc 0 (j0 y);have qo:Rd (F.setCell ⟨d,0,none⟩ (j0 y)) g (m+2):=qw.set (by show g < d;omega) _;have Bi:=ri.setNew (p:=⟨d,0,none⟩) (by show w.heap.size<=d;omega) (j0 y);obtain⟨y0,y1,y2,p0,p1,p2⟩:=own3 xc;obtain⟨K,J,G,f0,f1,f2⟩:=own3 V;have H:=E;clear z0 z1 z2 q0 q1 q2 C V xc ri D qw N O s T E;go_wp2_with fail;refine aQ (v:= m0 y n B a.length c) (by simp[aS,results70,go_sem,K,J,G]) rfl ⟨.mk y n a,_,rfl,⟨by simp only[cnt];omega,.kind HY.out⟩, ?_, ?_, ?_⟩
   · exact((((E2.mk y n xp T3 M).set (by simp) _).set (by simp) _).set (by simp) _).since (by omega)
   · exact((qo.set (by show g < w.heap.size+1;omega) _).set (by show g < w.heap.size+1;omega) _).set (by show g < w.heap.size+1;omega) _
   · exact((Bi.setNew (by simp) _).setNew (by simp) _).setNew (by simp) _
 by_cases Y:x=1
 · subst Y
   have C:=(xr j).alloc (.cells #[j0 21,j0 (-1),j0 1,j0 9223372036854775807] 3);obtain⟨z0,z1,z2,q0,q1,q2⟩:=own3 s;go_wp2_with fail;refine(Qq _ g _ (N.ext C) (by omega) _ 4 [21,-1,1,9223372036854775807] (by simp) (by decide) (by simp) (aE rfl) (by intro b o f;simp at f;have:=T.size;omega)).mono ?_;rintro e F ⟨y,rfl,hy,qw,D⟩;have HY:=hdq hy;clear hy;have ri:=(T.trans (oE (L:= [g]) C)).trans D;have V:=D.keepBlk (C.blk O) (by simp;omega);have xc:=D.keepBlk (C.blk s) (by simp;omega);have Do:j.heap.size<=F.heap.size:=by have:=C.size;have:=D.size;omega
   have xp:=HK.out (F.setCell ⟨d,1,none⟩ (j0 y)) (by simpa using Do) (fun b Y P h3=>(aM _ _ _ _ (by show b≠d;exact P)).trans ((D.block b (by have:=C.size;omega) (by simp;omega)).trans (C.heap b h3)));have Fv:=fe V (p:=⟨d,1,none⟩) (by show w.heap.size+1≠d;omega) (j0 y);have Fb:=b6 xc 1 (j0 y);have qo:Rd (F.setCell ⟨d,1,none⟩ (j0 y)) g (m+2):=qw.set (by show g < d;omega) _;have Bi:=ri.setNew (p:=⟨d,1,none⟩) (by show w.heap.size<=d;omega) (j0 y);obtain⟨y0,y1,y2,p0,p1,p2⟩:=own3 xc;obtain⟨K,J,G,f0,f1,f2⟩:=own3 V;have H:=E;clear z0 z1 z2 q0 q1 q2 C V xc ri D qw N O s T E;go_wp2_with fail;refine aQ (v:= m0 k y B a.length c) (by simp[aS,results70,go_sem,K,J,G]) rfl ⟨.mk k y a,_,rfl,⟨by simp only[cnt];omega,.num HY.out⟩, ?_, ?_, ?_⟩
   · exact((((E2.mk k y xp T3 M).set (by simp) _).set (by simp) _).set (by simp) _).since (by omega)
   · exact((qo.set (by show g < w.heap.size+1;omega) _).set (by show g < w.heap.size+1;omega) _).set (by show g < w.heap.size+1;omega) _
   · exact((Bi.setNew (by simp) _).setNew (by simp) _).setNew (by simp) _
 by_cases P:x=2
 · subst P
   obtain⟨i0,hi,hz0,hz1,hz2⟩:=info_parts oJ;have hv4:=E1 s 2;have Jf:=hdq s;have Ig:=hdq O;have Jx:d < j.heap.size:=D1 s;have Mw:a.length < 1099511627776:=by omega
   have hWw:w.heap.size+1 < W.heap.size:=by omega
   clear s O h0 Y;go_wp2_with fail
   go_region_law (first
    |(go_simp;go_at_call 62;refine(y15 _ 7 0).mono ?_;rintro e I ⟨rfl,e5⟩;have z:Ext j I:=((xr j).drew).trans e5;have qx:=z.blk Jf.out;have ln:=E1 qx 2;have Mn:d < I.heap.size:=D1 qx)
    |(refine OL _ (by rfl) (.tmp 25) (.tmp 27) _ (by rfl) 25 i0 _ underlying23 hi hz0 hz1 hz2 rfl (by rfl) (X:=fun b=> b < W.heap.size\/b=d) (W:=W) (tr:= .mk 7 0 []) (HG.out.ext (z.trans ((xr I).alloc _))) (by have:=z.size;simp;omega) (InT.mk_iff.2 ⟨none,0,rfl,aP _,cO _,.inl rfl⟩) (by rfl) (aT _ _) Mw ?_;intro v' F tz ml D9 D;obtain⟨B6,c6,rfl,r1,r2,hK6⟩:=tz.liesX (fun b f=> by rcases D b f with h|h;exact pk.out b h;(have:=z.size;simp at h;omega));have En:=(D9.block d (by simp;omega) (fun he=> by have:=HOW.out d he.symm;omega)).trans (((xr I).alloc (D0 7 0 none 0 0)).blk qx);have hv6:=E1 En 2;have hf6:=mc En 2))
   all_goals(
    have V:=(ml.block (w.heap.size+1) (by omega)).trans (((xr I).alloc (D0 7 0 none 0 0)).blk (z.blk Ig.out));have ri:i1 [g] w F:=((T.trans (oE (L:= [g]) z)).trans (oE (L:= [g]) ((xr I).alloc (D0 7 0 none 0 0)))).below ml (by omega);have qw:Rd F g (m+1):=((N.ext z).ext ((xr I).alloc (D0 7 0 none 0 0))).under ml (by omega);rw[List.length_append,List.length_singleton] at r1;have HK6:=hdq hK6;have F5:(a++ [Tr.mk 7 0 []]).length=a.length+1:=by simp
    have qp:=hdq F5;obtain⟨y0,y1,y2,p0,p1,p2⟩:=own3 En;obtain⟨K,J,G,f0,f1,f2⟩:=own3 V;have H:=E;clear F5 hK6 ml D9 D V En tz qx ln hv4 E;go_wp2_with fail;refine aQ (v:= m0 k n B6 (a.length+1) c6) (by simp[aS,results70,go_sem,K,J,G]) rfl ⟨.mk k n (a++ [.mk 7 0 []]),_,rfl,⟨by simp only[cnt,eD,O1];omega,.more⟩, ?_, ?_, ?_⟩
    · have Gl:Tc (w.heap.size+2) (F.setCell ⟨d,2,none⟩ (.slice B6 (a.length+1) c6)) B6 (a++ [.mk 7 0 []]):=HK6.out.mono (fun b f=>⟨by omega,by simpa using f.1⟩) (fun b f=> aM _ _ _ _ (by show b≠d;omega))
      have yw:=E2.mk k n Gl (by rw[qp.out];exact r1) r2;rw[qp.out] at yw;exact(((yw.set (by simp) _).set (by simp) _).set (by simp) _).since (by omega)
    · exact(((((qw.mono (by omega)).set (by show g < d;omega) _).set (by show g < w.heap.size+1;omega) _).set (by show g < w.heap.size+1;omega) _).set (by show g < w.heap.size+1;omega) _)
    · exact((((ri.setNew (by show w.heap.size<=d;omega) _).setNew (by simp) _).setNew (by simp) _).setNew (by simp) _))
 by_cases h3:x=3
 · subst h3
   have hFr:E2 (w.heap.size+2) j (.mk k n a) (m0 k n B a.length c):=E2.mk k n (HK.out j (aP _) (fun _ _ _ _=> rfl)) T3 M;obtain⟨y0,y1,y2,p0,p1,p2⟩:=own3 s;clear h0 Y P;go_wp2_with fail;refine(Nw (w.heap.size+2) _ 8 _ 1 [.mk k n a] (by intro h;cases h) (Tc.one (g:=j.heap.size) (e:=25) hFr (by omega) rfl) (by simp;omega) (by simp)).mono ?_;rintro e F ⟨u,rfl,hN,e6⟩;obtain⟨k6,n6,A6,l6,c6,rfl⟩:=hN.three;have Dg:=((xr j).alloc (D0 k n B a.length c)).trans e6;have ri:=T.trans (oE (L:= [g]) Dg);have qw:Rd F g (m+2):=(N.ext Dg).mono (by omega);obtain⟨K,J,G,f0,f1,f2⟩:=own3 (Dg.blk O);have H:=E;clear y0 y1 y2 p0 p1 p2 E O s hFr N;go_wp2_with fail;refine aQ (v:= m0 k6 n6 A6 l6 c6) (by simp[aS,results70,go_sem,K,J,G]) rfl ⟨.mk 8 0 [.mk k n a],_,rfl,⟨by simp only[cnt,O1];omega,.succ⟩, ?_, ?_, ?_⟩
   · exact(((hN.set (by simp) _).set (by simp) _).set (by simp) _).since (by omega)
   · exact((qw.set (by show g < w.heap.size+1;omega) _).set (by show g < w.heap.size+1;omega) _).set (by show g < w.heap.size+1;omega) _
   · exact((ri.setNew (by simp) _).setNew (by simp) _).setNew (by simp) _
 by_cases h4:x=4
 · subst h4
   cases j7:a with
   |nil=>
    subst j7;have xp:=HK.out j (aP _) (fun _ _ _ _=> rfl);have qo:Rd j g (m+2):=N.mono (by omega);clear N h0 Y P h3;obtain⟨K,J,G,f0,f1,f2⟩:=own3 O;obtain⟨x0,x1,x2,-,-,-⟩:=own3 s;have H:=E;clear E;go_wp2_with fail;refine aQ (v:= m0 k n B 0 c) (by simp[aS,results70,go_sem,K,J,G]) rfl ⟨.mk k n [],_,rfl,⟨by simp only[cnt];omega,.same⟩, ?_, ?_, ?_⟩
    · exact((((E2.mk k n xp T3 M).set (by simp) _).set (by simp) _).set (by simp) _).since (by omega)
    · exact((qo.set (by show g < w.heap.size+1;omega) _).set (by show g < w.heap.size+1;omega) _).set (by show g < w.heap.size+1;omega) _
    · exact((T.setNew (by simp) _).setNew (by simp) _).setNew (by simp) _
   |cons t0 ts=>
    have cm:0 < a.length:=by rw[j7];simp
    rw[<-j7];obtain⟨xs,q1,q2⟩:=HG.out;rcases q1.2 with⟨hv,hz⟩ |⟨r,cap',cur,hv,hbr,hr4,ey,hcm,hcs,I1⟩
    · omega
    cases hv
    have hr5:W.heap.size<=r/\r < d:=HOW.out r rfl;have U:=W1.tail (cur.toList.drop (a.length*3)) (q2.mono (S':=fun b=> b < j.heap.size/\r≠b/\ ¬(b < W.heap.size\/b=d)) (fun b f=>⟨f.1,fun h=> f.2.1 (by rw[h];rfl),f.2.2⟩) (fun _ _=> rfl));rw[<-I1,jQ] at U;have Ks:=hdq U;have hc3:0+3<=cur.size:=by rw[hcs];omega
    have Jf:=hdq s;have Ig:=hdq O;have HR:=hdq hr4;obtain⟨y0,y1,y2,p0,p1,p2⟩:=own3 s;obtain⟨v0,v1,v2,z0,z1,z2,fz0,fz1,fz2⟩:=Mk (i:=0) hr4 hc3;have Jx:d < j.heap.size:=D1 s;have W6:(0:Int) <(a.length:Int):=by omega
    have J3:=hdq j7;have l9:O1 (a.set 0 (.mk 1 25 []))<=O1 a:=by
     rw[j7];have:=nu t0;simp[O1,cnt]
     omega
    clear s O h0 Y P h3 U I1 q1 q2 hr4 j7 hcs hc3;go_wp2_with fail
    go_region_law (go_simp;go_at_call 62;refine(y15 _ 1 25).mono ?_;rintro e I ⟨rfl,e5⟩;have z:Ext j I:=((xr j).drew).trans e5;have qx:=z.blk Jf.out;have ln:=E1 qx 2;have Mn:d < I.heap.size:=D1 qx;have ie:=z.blk HR.out;have k0:=z.cell z0;have k1:=z.cell z1;have k2:=z.cell z2;have fk0:=mc ie 0;have fk1:=mc ie 1;have fk2:=mc ie 2)
    all_goals(
     obtain⟨R,B9⟩: ∃R,R=((I.setCell ⟨r,0,none⟩ (j0 1)).setCell ⟨r,1,none⟩ (j0 25)).setCell ⟨r,2,none⟩ (.slice none 0 0):=⟨_,rfl⟩;have b7r:R.heap[r]? =some (.cells (((cur.setIfInBounds 0 (j0 1)).setIfInBounds 1 (j0 25)).setIfInBounds 2 (.slice none 0 0)) 25 (0,0)):=by
      rw[B9];exact b6 (b6 (b6 ie 0 _) 1 _) 2 _
     have hne: ∀b,b≠r->R.heap[b]? =I.heap[b]? :=fun b f=> by
      rw[B9,aM _ _ _ _ f,aM _ _ _ _ f,aM _ _ _ _ f]
     have Bb:R.heap.size=I.heap.size:=by rw[B9];simp
     have hs45:=z.size;have qo:Rd R g (m+2):=by
      rw[B9];exact((((N.ext z).mono (show m+1<=m+2 by omega)).set (p:=⟨r,0,none⟩) (by show g < r;omega) _).set (p:=⟨r,1,none⟩) (by show g < r;omega) _).set (p:=⟨r,2,none⟩) (by show g < r;omega) _
     have Bi:i1 [g] w R:=by
      rw[B9];exact((((T.trans (oE (L:= [g]) z)).setNew (p:=⟨r,0,none⟩) (by show w.heap.size<=r;omega) _).setNew (p:=⟨r,1,none⟩) (by show w.heap.size<=r;omega) _).setNew (p:=⟨r,2,none⟩) (by show w.heap.size<=r;omega) _)
     have Fb:=(hne d (by omega)).trans qx;have Fv:=(hne (w.heap.size+1) (by omega)).trans (z.blk Ig.out);have tq:=W1.set (S:=fun b=> b < R.heap.size/\w.heap.size+2<=b) (t:= .mk 1 25 []) (v0:= j0 1) (v1:= j0 25) (v2:= .slice none 0 0) (InT.mk_iff.2 ⟨none,0,rfl,aP _,cO _,.inl rfl⟩) 0 (Ks.out.mono (w':=R) (S':=fun b=> b < R.heap.size/\w.heap.size+2<=b) (fun b f=>⟨by omega,by omega⟩) (fun b f=>(hne b (fun h=> f.2.1 h.symm)).trans (z.heap b f.1)));have Gl:Tc (w.heap.size+2) R (some ⟨r,0,none⟩) (a.set 0 (.mk 1 25 [])):=by
      refine .inr ⟨r,0,rfl,⟨by omega,by rw[Bb];exact D1 ie⟩, ?_⟩;have h9:=W1.inL b7r (pre:= []) (xs:=((cur.toList.set (0*3) (j0 1)).set (0*3+1) (j0 25)).set (0*3+2) (.slice none 0 0)) tq (by simp[Array.toList_setIfInBounds]);exact h9.mono (fun b f=>⟨f.2,f.1⟩) (fun _ _=> rfl) ⟨by rw[Bb];exact D1 ie,by omega⟩
     have yw:=E2.mk k n Gl (by rw[gZ];exact T3) M;rw[gZ] at yw;have HF8:=hdq yw;have Bp:cnt (.mk k n (a.set 0 (.mk 1 25 [])))<=cnt (.mk k n a)+1:=by simp only[cnt];omega
     have im:=hdq Bp;obtain⟨K,J,G,f0,f1,f2⟩:=own3 Fv;obtain⟨x0,x1,x2,-,-,-⟩:=own3 Fb;have H:=E;clear yw Gl tq Fb Fv hne b7r Bp ie k0 k1 k2 fk0 fk1 fk2 qx ln E y0 y1 y2 z0 z1 z2 fz0 fz1 fz2 p0 p1 p2
     try rw[<-B9]
     clear B9;go_wp2_with fail;refine aQ (v:= m0 k n (some ⟨r,0,none⟩) a.length c) (by simp[aS,results70,go_sem,K,J,G]) rfl ⟨.mk k n (a.set 0 (.mk 1 25 [])),_,rfl,⟨im.out,.var (by rw[J3.out];simp)⟩, ?_, ?_, ?_⟩
     · exact(((HF8.out.set (by simp) _).set (by simp) _).set (by simp) _).since (by omega)
     · exact((qo.set (by show g < w.heap.size+1;omega) _).set (by show g < w.heap.size+1;omega) _).set (by show g < w.heap.size+1;omega) _
     · exact((Bi.setNew (by simp) _).setNew (by simp) _).setNew (by simp) _)
 have t0:(x==0)=false:=beq_eq_false_iff_ne.2 h0;have t1:(x==1)=false:=beq_eq_false_iff_ne.2 Y;have t2:(x==2)=false:=beq_eq_false_iff_ne.2 P;have t3:(x==3)=false:=beq_eq_false_iff_ne.2 h3;have t4:(x==4)=false:=beq_eq_false_iff_ne.2 h4;have xp:=HK.out j (aP _) (fun _ _ _ _=> rfl);have qo:Rd j g (m+2):=N.mono (by omega);clear N h0 Y P h3 h4;obtain⟨K,J,G,f0,f1,f2⟩:=own3 O;obtain⟨x0,x1,x2,-,-,-⟩:=own3 s;have H:=E;clear E;go_wp2_with fail;refine aQ (v:= m0 k n B a.length c) (by simp[aS,results70,go_sem,K,J,G]) rfl ⟨.mk k n a,_,rfl,⟨by simp only[cnt];omega,.same⟩, ?_, ?_, ?_⟩
 · exact((((E2.mk k n xp T3 M).set (by simp) _).set (by simp) _).set (by simp) _).since (by omega)
 · exact((qo.set (by show g < w.heap.size+1;omega) _).set (by show g < w.heap.size+1;omega) _).set (by show g < w.heap.size+1;omega) _
 · exact((T.setNew (by simp) _).setNew (by simp) _).setNew (by simp) _
end Go.Proofs.YtckhbnmfnpolgaaGreat
namespace Go.Proofs.YtckhbnmfnpolgaaGreat
open Go.RowKit
mutual
def U4:Tr->List Int×Bool
 | .mk k n a=> if rdx k a≠0 then([],true)
  else if k=5\/k=15\/k=16 then(0::(q8 a 0).1,(q8 a 0).2)
  else if k=9 then(3::(q8 a 3).1,(q8 a 3).2)
  else if k=12 then(1::(q8 a 1).1,(q8 a 1).2) else([],false)
def q8:List Tr->Nat->List Int×Bool
 | [],_=>([],false)
 |t::ts,0=> U4 t
 |t::ts,i+1=> q8 ts i
end
def hdQ(t:Tr):Option (List Int):=if(U4 t).2=true then some (U4 t).1 else none
theorem rC{t:Tr}{p:List Int}(h:hdQ t=some p):U4 t=(p,true):=by
 unfold hdQ at h
 split at h
 · rename_i a
   simp only[Option.some.injEq] at h;rw[<-h,<-a]
 · cases h
theorem Yy{t:Tr}(h:hdQ t=none):(U4 t).2=false:=by
 unfold hdQ at h
 split at h
 · cases h
 · rename_i a
   simpa using a
theorem Pl: ∀{a:List Tr} {i:Nat},i < a.length->q8 a i=U4 (kd a i)
 |t::ts,0,_=> by rw[q8];rfl
 |t::ts,i+1,h=> by rw[q8,wB];exact Pl (by simpa using h)
theorem RB: ∀{a:List Tr} {i:Nat},a.length<=i->(q8 a i).2=false
 | [],_,_=> by rw[q8]
 |t::ts,0,h=> by simp at h
 |t::ts,i+1,h=> by rw[q8];exact RB (by simpa using h)
theorem LB: ∀(t:Tr) (d:Int),I0 sigT t d=true->((U4 t).1.length:Int)<=d:=Tr.ind fun k n a hk=> by
 intro d h;have hd:=xE h;have key: ∀i,((q8 a i).1.length:Int)<=d - 1:=fun i=> by
  by_cases hi:i < a.length
  · rw[Pl hi]
    exact hk _ (Pk hi) (d - 1) ((Iv h).2.2.2 _ (Pk hi))
  · have: ∀{a:List Tr} {i:Nat},a.length<=i->(q8 a i).1= []:=by
     intro a
     induction a with
     |nil=> intro i _;rw[q8]
     |cons t ts ih=>
      intro i h;cases i with
      |zero=> simp at h
      |succ i=> rw[q8];exact ih (by simpa using h)
    rw[this (by omega)];simp
    omega
 rw[U4]
 split
 · simp;omega
 · split
   · have:=key 0;simp only[bX];omega
   · split
     · have:=key 3;simp only[bX];omega
     · split
       · have:=key 1;simp only[bX];omega
       · simp;omega
theorem zG{k n:Int}{a:List Tr}{i:Nat}{p:List Int}(hi:i < a.length)(h:Yb (kd a i) p=true):Yb (.mk k n a) ((i:Int)::p)=true:=by
 unfold Yb at*;rw[show Qa (.mk k n a) ((i:Int)::p)=Qa (kd a i) p by simp[Qa,hi]];exact h
theorem Wv(t:Tr):conA t []=ctrT t:=by
 cases t
 simp[conA,Qa,M9]
theorem cy{k n:Int}{ks:List Tr}{i:Nat}{p:List Int}(hi:i < ks.length)(h:Yb (kd ks i) p=true):conA (.mk k n ks) ((i:Int)::p)= .mk k n (ks.set i (conA (kd ks i) p)):=by
 obtain⟨u,a,b⟩:=Rw h;unfold conA;rw[show Qa (.mk k n ks) ((i:Int)::p)=Qa (kd ks i) p by simp[Qa,hi],a];simp[M9]
theorem Xg: ∀(t:Tr) (p:List Int),U4 t=(p,true)->Yb t p=true:=Tr.ind fun k n a hk=> by
 intro p h;have key: ∀i,(q8 a i).2=true->Yb (.mk k n a) ((i:Int)::(q8 a i).1)=true:=fun i hi=> by
  by_cases hl:i < a.length
  · rw[Pl hl] at hi⊢
    exact zG hl (hk _ (Pk hl) _ (by rw[<-hi]))
  · rw[RB (by omega)] at hi
    cases hi
 rw[U4] at h
 split at h
 · rename_i b
   simp only[cQ,and_true] at h;subst h;unfold Yb;rw[show Qa (.mk k n a) []=some (.mk k n a) by simp[Qa]];exact Bx.2 b
 · split at h
   · simp only[cQ] at h
     rw[<-h.1];exact key 0 h.2
   · split at h
     · simp only[cQ] at h
       rw[<-h.1];exact key 3 h.2
     · split at h
       · simp only[cQ] at h
         rw[<-h.1];exact key 1 h.2
       · simp at h
theorem pl(t:Tr)(p:List Int)(h:hdQ t=some p):Yb t p=true:=Xg t p (rC h)
def pa:Nat->Tr->Tr×Int
 |0,t=> match hdQ t with
  |none=>(t,0)
  |some _=>(D2,1)
 |f+1,t=> match hdQ t with
  |none=>(t,0)
  |some p=> if valid sigT (conA t p)=true then pa f (conA t p) else(D2,2)
def b8(t:Tr)(f:Int):Tr×Int:=if(valid sigT t && ac f 0 200)=true then pa f.toNat t else(D2,3)
theorem uA{x:Tr}(h:hdQ x=none)(f:Nat):pa f x=(x,0):=by
 cases f <;>(unfold pa;rw[h])
theorem DF{x:Tr}{p:List Int}(h:hdQ x=some p):pa 0 x=(D2,1):=by
 unfold pa;rw[h]
theorem Tn{x:Tr}{p:List Int}(h:hdQ x=some p)(hv:valid sigT (conA x p)=false)(f:Nat):pa (f+1) x=(D2,2):=by
 rw[pa,h];simp only;rw[if_neg (by rw[hv];decide)]
theorem pr{x:Tr}{p:List Int}(h:hdQ x=some p)(hv:valid sigT (conA x p)=true)(f:Nat):pa (f+1) x=pa f (conA x p):=by
 rw[pa,h];simp only;rw[if_pos hv]
theorem gF: ∀(f:Nat) (t x:Tr),valid sigT t=true->pa f t=(x,0)->i8 t x/\hdQ x=none/\valid sigT x=true
 |0,t,x,hv,h=> by
  cases e:hdQ t with
  |none=>
   rw[uA e] at h;cases h
   exact⟨.refl _,e,hv⟩
  |some p=> rw[DF e] at h;cases h
 |f+1,t,x,hv,h=> by
  cases e:hdQ t with
  |none=>
   rw[uA e] at h;cases h
   exact⟨.refl _,e,hv⟩
  |some p=>
   by_cases hc:valid sigT (conA t p)=true
   · rw[pr e hc] at h
     obtain⟨b,a⟩:=gF f _ x hc h;exact⟨(i8.one (MA (pl t p e))).trans b,a⟩
   · rw[Tn e (Bool.eq_false_iff.2 hc)] at h
     cases h
theorem BA{t x:Tr}{f:Int}(h:b8 t f=(x,0)):valid sigT t=true/\i8 t x/\hdQ x=none/\valid sigT x=true:=by
 unfold b8 at h
 split at h
 · rename_i hv
   rw[Bool.and_eq_true] at hv;exact⟨hv.1,gF _ _ _ hv.1 h⟩
 · cases h
