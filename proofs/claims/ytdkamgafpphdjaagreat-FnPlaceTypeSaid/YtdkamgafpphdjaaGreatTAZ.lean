/-
  Lemmas towards the law, 26: Shf, CtxI.
-/
import Derived.Test.YtdkamgafpphdjaaGreatTAY
namespace Go.Proofs.YtdkamgafpphdjaaGreat
open Go.RowKit
set_option linter.unusedVariables false
theorem Only.blk{L:List Nat}{a w:World}{g:Nat}{o:Obj}(h:Only L a w)(hb:a.heap[g]? =some o)(hn: ¬g∈L):w.heap[g]? =some o:=(h.block g (q10 hb) hn).trans hb
theorem j46(n:Int)(w:World):Calls Tryz.prog 92 #[.int .i64 n] w fun e w'=> e= .returned (.agg #[.int .i64 1, .int .i64 n, .slice none 0 0])/\Ext w w':=by
 go_enter Tryz.func92,Tryz.ntmps92;go_wp2_with fail;exact bodyPost_ret (v:= .agg #[.int .i64 1, .int .i64 n, .slice none 0 0]) (by simp[results,Tryz.results92,go_sem]) rfl ⟨rfl,(xr w).alloc _⟩
theorem q100(k n:Int)(ks:List Tr)(A:Option Addr)(cap:Nat)(w:World)(hin:Lies w (.mk k n ks) (.agg #[.int .i64 k, .int .i64 n, .slice A ks.length cap])):
 Calls Tryz.prog 120 #[.agg #[.int .i64 k, .int .i64 n, .slice A ks.length cap]] w fun e w'=>(if valid sigT (.mk k n ks)=true then e= .returned (.tuple #[.agg #[.int .i64 k, .int .i64 n, .slice A ks.length cap], .bool true]) else e= .returned (.tuple #[.agg #[.int .i64 0, .int .i64 0, .slice none 0 0], .bool false]))/\Ext w w':=by
 have HV:=hdq (fun W (hW:Ext w W)=> q18 _ W _ (hin.ext hW));generalize valid sigT (.mk k n ks)=s at HV⊢;have hE:=((xr w).alloc (.cells #[.int .i64 k, .int .i64 n, .slice A ks.length cap] 25)).alloc (.cells #[.int .i64 0, .int .i64 0, .slice none 0 0] 25);obtain⟨hbT,hbR,hs1⟩:=blk2 (xr ((w.alloc (.cells #[.int .i64 k, .int .i64 n, .slice A ks.length cap] 25)).alloc (.cells #[.int .i64 0, .int .i64 0, .slice none 0 0] 25)));cases s with
 |true=>
  simp only[if_true];go_enter Tryz.func120,Tryz.ntmps120;go_wp2_with fail;refine(HV.out _ hE).mono ?_;rintro e w1 ⟨rfl,e1⟩;obtain⟨x0,x1,x2,-,-,-⟩:=own3 (e1.blk hbT);obtain⟨s0,s1,s2,f0,f1,f2⟩:=own3 (e1.blk hbR);go_wp2_with fail;exact bodyPost_ret (v:= .tuple #[.agg #[.int .i64 k, .int .i64 n, .slice A ks.length cap], .bool true]) (by simp[results,Tryz.results120,go_sem,s0,s1,s2]) rfl ⟨rfl,((((hE.trans e1).setCell (by simp) _).setCell (by simp) _).setCell (by simp) _)⟩
 |false=>
  simp only[Bool.false_eq_true,if_false];go_enter Tryz.func120,Tryz.ntmps120;go_wp2_with fail;refine(HV.out _ hE).mono ?_;rintro e w1 ⟨rfl,e1⟩;obtain⟨s0,s1,s2,f0,f1,f2⟩:=own3 (e1.blk hbR);go_wp2_with fail;exact bodyPost_ret (v:= .tuple #[.agg #[.int .i64 0, .int .i64 0, .slice none 0 0], .bool false]) (by simp[results,Tryz.results120,go_sem,s0,s1,s2]) rfl ⟨rfl,((((hE.trans e1).setCell (by simp) _).setCell (by simp) _).setCell (by simp) _)⟩
def ShI(p1 p2 p3 B:Nat)(c y:Int)(w:World)(s:Bool):Prop:=(p1 < B/\p2 < B/\p3 < B)/\w.heap[p1]? =some (.cells #[.int .i64 c] 3 (0,0))/\w.heap[p2]? =some (.cells #[.int .i64 y] 3 (0,0))/\w.heap[p3]? =some (.cells #[.bool s] 4 (0,0))
theorem shift1(a:World)(p1 p2 p3 B:Nat)(c y:Int)(h13:p1≠p3)(h23:p2≠p3)(hy0:0<=y)(hy1:y<=1000)(hc0:0<=c)(hc1:c<=1000):Chg_sh a p1 p2 p3 [p3] (ShI p1 p2 p3 B c y) (gsh y c) (hsh y c):=by
 intro w s n b ha hI hn0 hn1 hb0 hb1;obtain⟨hpB,i1,i2,i3⟩:=hI;have c1:=y10 i1 0;have c2:=y10 i2 0;have c3:=y10 i3 0;have f3:=y12 i3 0;have l1:=q10 i1;have l2:=q10 i2;have l3:=q10 i3;have H1:=hdq i1;have H2:=hdq i2;have H3:=hdq i3;clear i1 i2 i3;have HV:=hdq (fun m W=> j46 m W);by_cases h:c<=n - b
 · have d1:decide (c<=n - b)=true:=decide_eq_true h
   obtain⟨b2,d2⟩: ∃x,decide (c<=n+y - b)=x:=⟨_,rfl⟩;obtain⟨b3,d3⟩: ∃x,decide (n+y<=20)=x:=⟨_,rfl⟩;have e1:gsh y c n b= .mk 1 (n+y) []:=by unfold gsh;rw[if_pos h]
   have e2:hsh y c n b=(b2 && b3):=by unfold hsh;rw[if_pos h,d2,d3]
   rw[e1,e2];clear e1 e2 h;cases s <;> cases b2 <;> cases b3
   all_goals go_enter Tryz.func188,Tryz.ntmps188
   all_goals go_wp2_with fail
   all_goals(
    refine(HV.out _ _).mono ?_;rintro e w1 ⟨rfl,e1⟩;have hb:=e1.newBlk;simp only[World.size_setCell] at hb;obtain⟨s0,s1,s2,f0,f1,f2⟩:=own3 hb;have o1:=fun u=>(((Only.refl [p3] w).setCell (p:=⟨p3,0,none⟩) (by simp) u).alloc (.cells #[.int .i64 0, .int .i64 0, .slice none 0 0] 25))
    have o2:=(o1 _).trans (oE e1);have q3:=fun u=> q11 H3.out 0 u
    have q4:=e1.blk ((Below.heap_alloc _ _ _ (by simp;omega)).trans (q3 _));clear hb;go_wp2_with fail;refine bodyPost_ret (v:= .agg #[.int .i64 1, .int .i64 (n+y), .slice none 0 0]) (by simp[results,Tryz.results188,go_sem,s0,s1,s2]) rfl ⟨_,rfl,Made.leaf _ _ _ _ _, ?_,hpB, ?_, ?_, ?_⟩
    · exact(((o2.setNew (by simp) _).setNew (by simp) _).setNew (by simp) _)
    · exact(((o2.setNew (by simp) _).setNew (by simp) _).setNew (by simp) _).blk H1.out (by simpa using h13)
    · exact(((o2.setNew (by simp) _).setNew (by simp) _).setNew (by simp) _).blk H2.out (by simpa using h23)
    · rw[Below.heap_setCell _ _ _ _ (by show p3≠w.heap.size;omega),Below.heap_setCell _ _ _ _ (by show p3≠w.heap.size;omega),Below.heap_setCell _ _ _ _ (by show p3≠w.heap.size;omega),q4]
      rfl)
 · have d1:decide (c<=n - b)=false:=decide_eq_false h
   have e1:gsh y c n b= .mk 1 n []:=by unfold gsh;rw[if_neg h]
   have e2:hsh y c n b=true:=by unfold hsh;rw[if_neg h]
   rw[e1,e2,Bool.and_true];clear e1 e2 h;go_enter Tryz.func188,Tryz.ntmps188;go_wp2_with fail;refine(HV.out _ _).mono ?_;rintro e w1 ⟨rfl,e1⟩;have hb:=e1.newBlk;obtain⟨s0,s1,s2,f0,f1,f2⟩:=own3 hb;have o2:=((Only.refl [p3] w).alloc (.cells #[.int .i64 0, .int .i64 0, .slice none 0 0] 25)).trans (oE e1);have q4:=(Ext.blk e1.pre H3.out);clear hb;go_wp2_with fail;refine bodyPost_ret (v:= .agg #[.int .i64 1, .int .i64 n, .slice none 0 0]) (by simp[results,Tryz.results188,go_sem,s0,s1,s2]) rfl ⟨_,rfl,Made.leaf _ _ _ _ _, ?_,hpB, ?_, ?_, ?_⟩
   · exact(((o2.setNew (by simp) _).setNew (by simp) _).setNew (by simp) _)
   · exact(((o2.setNew (by simp) _).setNew (by simp) _).setNew (by simp) _).blk H1.out (by simpa using h13)
   · exact(((o2.setNew (by simp) _).setNew (by simp) _).setNew (by simp) _).blk H2.out (by simpa using h23)
   · rw[Below.heap_setCell _ _ _ _ (by show p3≠w.heap.size;omega),Below.heap_setCell _ _ _ _ (by show p3≠w.heap.size;omega),Below.heap_setCell _ _ _ _ (by show p3≠w.heap.size;omega),q4]
def okT(t:Tr):Tr:=if valid sigT t=true then t else j14
set_option maxRecDepth 100000 in
theorem j82(t:Tr)(y c:Int)(w:World)(v:Value)(hin:Lies w t v)(hv:valid sigT t=true)(hy0:0<=y)(hy1:y<=1000)(hc0:0<=c)(hc1:c<=1000):
 Calls Tryz.prog 145 #[v, .int .i64 y, .int .i64 c] w fun e w'=> ∃u,e= .returned (.tuple #[u, .bool (valid sigT (shfT y t c))])/\Made w w' 25 (okT (shfT y t c)) u/\Ext w w':=by
 obtain⟨hs,hcn⟩:=q12 hv;obtain⟨hw1,hw2⟩:=y183 (c:=c) hy0 hv;have hCH:=fun W (hW:Ext w W) p1 p2 p3 (hp:w.heap.size<=p3) (h13:p1≠p3) (h23:p2≠p3) (h1:W.heap[p1]? =some (.cells #[.int .i64 c] 3 (0,0))) (h2:W.heap[p2]? =some (.cells #[.int .i64 y] 3 (0,0))) (h3:W.heap[p3]? =some (.cells #[.bool true] 4 (0,0)))=>
  q108 t w W v 0 30 p1 p2 p3 [p3] W.heap.size (ShI p1 p2 p3 W.heap.size c y) (gsh y c) (hsh y c) true hs hin hW (fun x hx=> by rw[List.mem_singleton.1 hx];exact⟨hp,q10 h3⟩) (by omega) (by omega)
   (shift1 w p1 p2 p3 _ c y h13 h23 hy0 hy1 hc0 hc1) (fun w1 w2 s h he=>⟨h.1,he.blk h.2.1,he.blk h.2.2.1,he.blk h.2.2.2⟩) (Nat.le_refl _) (fun w1 w2 s h he hl=>⟨h.1,(he p1 h.1.1).trans h.2.1,(he p2 h.1.2.1).trans h.2.2.1,(he p3 h.1.2.2).trans h.2.2.2⟩) ⟨⟨q10 h1,q10 h2,q10 h3⟩,h1,h2,h3⟩
 rw[hw2] at hw1;simp only[hw2,Bool.true_and] at hCH;have HCH:=hdq hCH;clear hCH hw2 hs;obtain⟨vb,hvb⟩: ∃vb,vb=valid sigT (shfT y t c):=⟨_,rfl⟩;obtain⟨rt,hrt⟩: ∃rt,rt=okT (shfT y t c):=⟨_,rfl⟩;rw[<-hvb,<-hrt];generalize shfT y t c=r at hw1 HCH hvb hrt;generalize allT (hsh y c) t 0=f at hw1 HCH;obtain⟨k,n,ks⟩:=t;obtain⟨A,cap,rfl,hl,hc,hK⟩:=Lies.mk_iff.1 hin;have hE:=((((xr w).alloc (.cells #[.int .i64 k, .int .i64 n, .slice A ks.length cap] 25)).alloc (.cells #[.int .i64 y] 3)).alloc (.cells #[.int .i64 c] 3)).alloc (.cells #[.int .i64 0, .int .i64 0, .slice none 0 0] 25);have hbb:=blk4 ((xr ((((w.alloc (.cells #[.int .i64 k, .int .i64 n, .slice A ks.length cap] 25)).alloc (.cells #[.int .i64 y] 3)).alloc (.cells #[.int .i64 c] 3)).alloc (.cells #[.int .i64 0, .int .i64 0, .slice none 0 0] 25))).alloc (.cells #[.bool true] 4));have hb5:=heap_alloc_new ((((w.alloc (.cells #[.int .i64 k, .int .i64 n, .slice A ks.length cap] 25)).alloc (.cells #[.int .i64 y] 3)).alloc (.cells #[.int .i64 c] 3)).alloc (.cells #[.int .i64 0, .int .i64 0, .slice none 0 0] 25)) (.cells #[.bool true] 4);have hE5:=hE.alloc (.cells #[.bool true] 4);have hsz:(((((w.alloc (.cells #[.int .i64 k, .int .i64 n, .slice A ks.length cap] 25)).alloc (.cells #[.int .i64 y] 3)).alloc (.cells #[.int .i64 c] 3)).alloc (.cells #[.int .i64 0, .int .i64 0, .slice none 0 0] 25)).alloc (.cells #[.bool true] 4)).heap.size=w.heap.size+1+1+1+1+1:=by simp
 obtain⟨hb1,hb2,hb3,hb4,-⟩:=hbb;simp only[World.size_alloc] at hb5;go_enter Tryz.func145,Tryz.ntmps145;go_wp2_with fail;generalize World.alloc _ _=wa at hE5 hb1 hb2 hb3 hb4 hb5 hsz;clear hE;refine(HCH.out wa hE5 _ _ _ (by omega) (by omega) (by omega) hb3 hb2 hb5).mono ?_;rintro e w1 ⟨u,rfl,hM,ho,hI⟩;obtain⟨k2,n2,ks2⟩:=r;obtain⟨A2,c2,rfl,hl2,hc2,hMK2⟩:=Made.mk_iff.1 hM;have hb4':=ho.blk hb4 (by simp);have i3:=hI.2.2.2;have hc5:=y10 i3 0;have hlt5:=q10 i3;have hlt4:=q10 hb4';have hso:=ho.size;have hEw:Ext w w1:=ho.ext hE5 (fun x hx=> by rw[List.mem_singleton.1 hx];omega);obtain⟨s0,s1,s2,f0,f1,f2⟩:=own3 hb4';clear HCH hb1 hb2 hb3 hb4 hb5 hI i3;have hx:=(xr w1).alloc (.cells #[.int .i64 k2, .int .i64 n2, .slice A2 ks2.length c2] 25);cases f with
 |false=>
  rw[Bool.false_and] at hw1;have h1:vb=false:=by rw[hvb,<-hw1]
  have h2:rt=j14:=by rw[hrt];unfold okT;rw[<-hw1];rfl
  have H1:=hdq h1;have H2:=hdq h2;clear hw1 hvb hrt h1 h2;go_wp2_with fail;refine bodyPost_ret (v:= .tuple #[.agg #[.int .i64 0, .int .i64 0, .slice none 0 0], .bool false]) (by simp[results,Tryz.results145,go_sem,s0,s1,s2,hlt4]) rfl ⟨.agg #[.int .i64 0, .int .i64 0, .slice none 0 0],by rw[H1.out],by rw[H2.out];exact Made.leaf _ _ _ _ _, ?_⟩;exact(((hEw.setCell (by simp;omega) _).setCell (by simp;omega) _).setCell (by simp;omega) _).alloc _
 |true=>
  rw[Bool.true_and] at hw1;have HV:=hdq (fun W (hW:Ext w1 W)=> q100 k2 n2 ks2 A2 c2 W (hM.lies.ext hW));generalize hok:valid sigT (.mk k2 n2 ks2)=b at HV;have hO:rt=if b=true then .mk k2 n2 ks2 else j14:=by rw[hrt];unfold okT;rw[hok]
  rw[hok] at hvb;have H1:=hdq hvb;have H2:=hdq hO;clear hO hw1 hok hrt hvb;go_wp2_with fail;refine(HV.out _ hx).mono ?_;cases b with
  |true=>
   simp only[if_true];rintro e w2 ⟨rfl,e2⟩;obtain⟨q0,q1,q2,g0,g1,g2⟩:=own3 ((hx.trans e2).blk hb4');go_wp2_with fail;refine bodyPost_ret (v:= .tuple #[.agg #[.int .i64 k2, .int .i64 n2, .slice A2 ks2.length c2], .bool true]) (by simp[results,Tryz.results145,go_sem,q0,q1,q2]) rfl ⟨.agg #[.int .i64 k2, .int .i64 n2, .slice A2 ks2.length c2],by rw[H1.out], ?_, ?_⟩
   · rw[H2.out]
     simp only[if_true];exact Made.since (((hM.ext (hx.trans e2)).after ((((y28.refl _ _).setCell (by simp;omega) _).setCell (by simp;omega) _).setCell (by simp;omega) _))) (by omega)
   · exact(((((hEw.trans hx).trans e2).setCell (by simp;omega) _).setCell (by simp;omega) _).setCell (by simp;omega) _)
  |false=>
   simp only[Bool.false_eq_true,if_false];rintro e w2 ⟨rfl,e2⟩;obtain⟨q0,q1,q2,g0,g1,g2⟩:=own3 ((hx.trans e2).blk hb4');go_wp2_with fail;refine bodyPost_ret (v:= .tuple #[.agg #[.int .i64 0, .int .i64 0, .slice none 0 0], .bool false]) (by simp[results,Tryz.results145,go_sem,q0,q1,q2]) rfl ⟨.agg #[.int .i64 0, .int .i64 0, .slice none 0 0],by rw[H1.out],by rw[H2.out];exact Made.leaf _ _ _ _ _, ?_⟩;exact(((((hEw.trans hx).trans e2).setCell (by simp;omega) _).setCell (by simp;omega) _).setCell (by simp;omega) _)
end Go.Proofs.YtdkamgafpphdjaaGreat
namespace Go.Proofs.YtdkamgafpphdjaaGreat
open Go.RowKit
set_option linter.unusedVariables false
attribute [local go_sem ↓] Go.wp_at_zero Go.wp_at_succ
def ctxV(ctx:List Tr)(t:Tr)(p:List Int):List Tr×Bool:=
 if(y36 ctx &&(atV t p).2 && decide (ctx.length+(bndT t p).length<=8))=true then(ctx++bndT t p,true) else([],false)
theorem j118: ∀(p:List Int) (t x:Tr),x∈bndT t p->cnt x<=cnt t
 | [],t,x,h=> by
  obtain⟨k,n,ks⟩:=t;rw[bndT] at h;simp at h
 |i::q, .mk k n ks,x,h=> by
  rw[j80] at h
  split at h
  · rename_i hi
    have hkd: ∀j,j < ks.length->cnt (kd ks j)<=cnt (.mk k n ks):=fun j hj=> by
     have h1:kd ks j=ks[j]:=j37 hj rfl;have h2:=y15 (List.getElem_mem hj);rw[h1,cnt];omega
    rcases List.mem_append.1 h with h|h
    · split at h
      · rw[List.mem_singleton.1 h]
        exact hkd 0 (by omega)
      · simp at h
    · exact Nat.le_trans (j118 q _ x h) (hkd _ (by omega))
  · simp at h
theorem y125: ∀(p:List Int) (t:Tr),(bndT t p).length<=p.length
 | [],t=> by
  obtain⟨k,n,ks⟩:=t;rw[bndT];simp
 |i::q, .mk k n ks=> by
  rw[j80]
  split
  · have:=y125 q (kd ks i.toNat)
    rw[List.length_append,List.length_cons]
    split <;> simp <;> omega
  · simp
theorem j49.lies{W w:World}{e:TypeId}{v:Value}{ks:List Tr}(h:j49 W w e v ks)(hW:W.heap.size<=w.heap.size): ∃A cap,v= .slice A ks.length cap/\ks.length<=cap/\cap<=maxLen/\j21 w A ks:=by
 obtain⟨xs,h1,h2⟩:=h;rcases h1.2 with⟨rfl,h0⟩ |⟨g,cap,cur,rfl,hb,hg,hnc,hcm,hcs,ht⟩
 · have:ks= []:=List.eq_nil_of_length_eq_zero h0
   subst this;exact⟨none,0,rfl,Nat.le_refl _,Nat.zero_le _, .inl rfl⟩
 · refine⟨_,cap,rfl,hnc,hcm, .inr ⟨g,0,rfl,q10 hg, ?_⟩⟩
   have h3:=RowL.tail (cur.toList.drop (ks.length*3)) (h2.mono (S':=fun b=> b < w.heap.size) (fun b hb=> Nat.lt_of_lt_of_le hb hW) (fun _ _=> rfl));rw[<-ht,List.take_append_drop] at h3;exact RowL.inL hg (pre:= []) h3 (by simp)
theorem q74{P:Program}(w:World){ops:Array Oper}{rest:List Oper}{o:Oper}{a:Act}{Q:Exit->Act->World->Prop}(hgd:o.guard=none)(s x:Operand)(t:TypeId)
 (ho:o.op= .call {callee:= .builtin .append,args:=#[s,x],argTypes:=#[t,t]})
 (e:TypeId) (i:TypeInfo) (z:Value) (ht:P.underlying t=some (.slice e)) (hi:P.info? e=some i) (hz:i.zero=some z) (hsize:i.size=3) (hby:i.bytes=40) (hzs:z.cells.size=3)
 {X:Nat->Prop} {W:World} {v:Value} {ks ts:List Tr} {A:Option Addr} {cap:Nat} (hs:a.eval s=v) (hG:j16 X W w e v ks) (hW:W.heap.size<=w.heap.size)
 (hA:A=none->cap=0) (hT:InK w (fun b=> b < w.heap.size/\v.ownBlock≠some b/\ ¬X b) A ts)
 (hx:a.eval x= .slice A ts.length cap) (hn:ks.length < 1000) (hm:ts.length < 1000)
 (h: ∀v' w',j16 X W w' e v' (ks++ts)->Below W.heap.size w w'->wpList P ops Q rest (a.put o.dst v') w'):wpList P ops Q (o::rest) a w:=by
 refine wpList_plain hgd fun K hK=> ?_
 obtain⟨xs,h1,h2⟩:=hG;unfold Oper.wp execOp;have hcase:(∃a0,A=some a0)\/ts= []/\A=none:=by
  cases A with
  |some a0=> exact .inl ⟨a0,rfl⟩
  |none=>
   rcases hT with h|⟨b,ox,h,-⟩
   · exact .inr ⟨h,rfl⟩
   · cases h
 rcases hcase with⟨a0,rfl⟩ |⟨rfl,rfl⟩
 · obtain⟨ys,n1,n2,n3,n4⟩: ∃ys:List Value,ys.length=ts.length*3/\(∀j u,ys[j]? =some u->w.cell? (a0.add j)=some u)/\(∀u∈ys,u.oneCell'=true)/\RowL w (fun b=> b < w.heap.size/\v.ownBlock≠some b/\ ¬X b) ys ts:=by
    rcases hT with rfl|⟨b,ox,he,hb,hin⟩
    · exact⟨[],rfl,(fun j u h=> by simp at h),(fun u h=> by simp at h),RowL.nil⟩
    · cases he
      obtain⟨ys,n1,n2,n3,n4⟩:=hin.rowL;exact⟨ys,n1,fun j u hu=> by rw[Addr.add_lit];exact n2 j u hu,n3,n4⟩
   obtain⟨v',w',hr,r1,r2,r3⟩:=q16 (P:=P) w W.heap.size t o.type e i z 3 40 ht hi hz hsize hby hzs (by decide) v ks.length xs h1 a0 ts.length cap ys n1 n2 n3 (by unfold maxLen;omega) (by omega) hW;have hB:Below W.heap.size w w':=⟨r2.os,r2.tape,r2.output,r2.size,fun b hb=> r2.block b (by omega) (fun he=> by have:=(h1.lt b he.symm).1;omega)⟩;have hS: ∀b,b < w.heap.size/\v.ownBlock≠some b/\ ¬X b->b < w'.heap.size/\v'.ownBlock≠some b/\ ¬X b:=fun b hb=> by
    refine⟨Nat.lt_of_lt_of_le hb.1 r2.size,fun he=> ?_,hb.2.2⟩;rcases r3 b he with h4|h4
    · exact hb.2.1 h4
    · omega
   have hw: ∀b,b < w.heap.size/\v.ownBlock≠some b/\ ¬X b->w'.heap[b]? =w.heap[b]? :=fun b hb=> r2.block b hb.1 (fun he=> hb.2.1 he.symm)
   have hG':j16 X W w' e v' (ks++ts):=⟨_,by rw[List.length_append];exact r1,RowL.append (n4.mono hS hw) h1.1 (h2.mono hS hw)⟩;simp only[ho,resolve,invoke,builtin,Sem.run_bind,Sem.run_pure,Result.andThen_ok,List.map_toArray,List.map_cons,List.map_nil,hs,hx,hr];exact hK _ _ (h v' w' hG' hB)
 · obtain rfl:=hA rfl
   have hr:=run_append_owned_none (P:=P) (w:=w) W.heap.size t o.type e i 3 ht hi v ks.length xs h1;rw[List.length_nil] at hx;simp only[ho,resolve,invoke,builtin,Sem.run_bind,Sem.run_pure,Result.andThen_ok,List.map_toArray,List.map_cons,List.map_nil,hs,hx,hr];refine hK _ _ (h v w ?_ (Below.refl _ _));rw[List.append_nil];exact⟨xs,h1,h2⟩
theorem j16.capz{X:Nat->Prop}{W w:World}{e:TypeId}{n c:Nat}{ks:List Tr}(h:j16 X W w e (.slice none n c) ks):c=0:=by
 obtain⟨xs,h1,-⟩:=h;rcases h1.2 with⟨h,-⟩ |⟨g,cap,cur,h,-⟩
 · cases h;rfl
 · cases h
theorem q134:(Tryz.prog.info? 25).map (fun i=>(i.zero,i.size,i.bytes))=some (some (.agg #[.int .i64 0, .int .i64 0, .slice none 0 0]),3,40):=by kernel_rfl
theorem y191(t:Tr)(w:World)(v:Value)(hin:Lies w t v):Calls Tryz.prog 132 #[v] w fun e w'=> e= .returned (.bool (!valid sigT t))/\Ext w w':=by
 have HV:=hdq (fun W (hW:Ext w W)=> q18 t W v (hin.ext hW));obtain⟨k,n,ks⟩:=t;obtain⟨A,cap,rfl,hl,hc,hK⟩:=Lies.mk_iff.1 hin;go_enter Tryz.func132,Tryz.ntmps132;go_wp2_with fail;refine(HV.out _ ((xr w).alloc _)).mono ?_;rintro e w1 ⟨rfl,h1⟩;go_wp2_with fail;go_ret;exact⟨rfl,h1.pre⟩
set_option maxHeartbeats 400000 in
theorem y189(ks:List Tr)(w:World)(A:Option Addr)(cap:Nat)(hl:ks.length<=cap)(hc:cap<=maxLen)(h:j21 w A ks):
 Calls Tryz.prog 164 #[.slice A ks.length cap, .func (.func 132) #[] #[]] w fun e w'=> e= .returned (.int .i64 (j31 (fun t=> !valid sigT t) ks 0))/\Ext w w':=by
 obtain⟨p,hp⟩: ∃p:Tr->Bool,p=fun t=> !valid sigT t:=⟨_,rfl⟩
 have hf: ∀t∈ks,∀w' v,Ext w w'->Lies w' t v->Calls Tryz.prog 132 #[v] w' fun e w''=> e= .returned (.bool (p t))/\Ext w' w'':=fun t _ w' v _ hv=> by rw[hp];exact y191 t w' v hv
 rw[<-hp];clear hp;unfold maxLen at hc;go_enter Tryz.func164,Tryz.ntmps164;go_wp2_with fail
 go_loopw [8] (fun i wr=> ∃j:Nat,j<=ks.length/\i= .int .i64 j/\j31 p ks 0=j31 p (ks.drop j) j/\Ext w wr) (fun i _=> ks.length -(intOf i).toNat)
 case atStart=> exact⟨0,Nat.zero_le _,rfl,rfl,xr _⟩
 case round=>
  obtain⟨j,hj,rfl,heq,hx⟩:=hrel;have HE:=hdq heq;clear heq;by_cases hlt:j < ks.length
  · obtain⟨b,o,k,n,A',cap',kids,rfl,HK,c0,c1,c2,hkl,hkc,hK,hin,hmem⟩:=h.get hx hlt
    have hst:j31 p (ks.drop j) j=if p (.mk k n kids)=true then(j:Int) else j31 p (ks.drop (j+1)) (j+1):=by
     rw[List.drop_eq_getElem_cons hlt,HK.out];conv=> lhs;unfold j31
    have HF:=hdq (hf _ hmem);clear hf;go_wp2_with fail;refine(HF.out wr _ hx hin).mono ?_;rintro e w1 ⟨rfl,h1⟩;generalize p (.mk k n kids)=r at hst;cases r with
    |true=>
     rw[if_pos rfl] at hst;have HT:=hdq hst;clear hst;go_wp2_with fail;go_ret;exact⟨by rw[HE.out,HT.out];rfl,hx.trans h1⟩
    |false=>
     rw[if_neg (by decide)] at hst;have HT:=hdq hst;clear hst;go_wp2_with fail
     go_roundw
     case rel=> exact⟨j+1,by omega,by go_num,by rw[HE.out,HT.out],hx.trans h1⟩
     case measure=> simp[intOf];omega
  · go_wp2_with fail
    go_ret;exact⟨by rw[HE.out,List.drop_of_length_le (by omega)];rfl,hx⟩
theorem q133(ks:List Tr)(w:World)(A:Option Addr)(cap:Nat)(hl:ks.length<=cap)(hc:cap<=maxLen)(h:j21 w A ks):
 Calls Tryz.prog 69 #[.slice A ks.length cap] w fun e w'=> e= .returned (.bool (y36 ks))/\Ext w w':=by
 have hC:Calls Tryz.prog 125 #[.slice A ks.length cap, .func (.func 132) #[] #[]] w fun e w'=> e= .returned (.bool (ks.any (fun t=> !valid sigT t)))/\Ext w w':=by
  have HI:=hdq (y189 ks w A cap hl hc h);have HB:=hdq (y58 (fun t=> !valid sigT t) ks 0);go_enter Tryz.func125,Tryz.ntmps125;go_wp2_with fail;refine HI.out.mono ?_;rintro e w1 ⟨rfl,h1⟩;go_wp2_with fail;go_ret;exact⟨by rw[<-HB.out];rfl,h1⟩
 have HC:=hdq hC;have he:y36 ks=(decide (ks.length<=8)&& !ks.any (fun t=> !valid sigT t)):=rfl;clear hC;by_cases h8:ks.length<=8
 · rw[decide_eq_true h8,Bool.true_and] at he
   have d:decide ((ks.length:Int)<=8)=true:=decide_eq_true (by omega);have HE:=hdq he;clear he;go_enter Tryz.func69,Tryz.ntmps69;go_wp2_with fail;refine HC.out.mono ?_;rintro e w1 ⟨rfl,h1⟩;generalize ks.any (fun t=> !valid sigT t)=r at HE;go_wp2_with fail;go_ret;exact⟨by rw[HE.out];simp,h1⟩
 · rw[decide_eq_false h8,Bool.false_and] at he
   have d:decide ((ks.length:Int)<=8)=false:=decide_eq_false (by omega);have HE:=hdq he;clear he;go_enter Tryz.func69,Tryz.ntmps69;go_wp2_with fail;go_ret;exact⟨by rw[HE.out];rfl,xr _⟩
set_option maxRecDepth 100000 in
set_option maxHeartbeats 1000000 in
theorem q111(ks:List Tr)(w:World)(A:Option Addr)(cap:Nat)(h:j21 w A ks)(hl:ks.length<=cap)(hc:cap<=maxLen)(hn:ks.length < 1000)(hcn: ∀t∈ks,cnt t<=1000000):
 Calls Tryz.prog 70 #[.slice A ks.length cap] w fun e w'=> ∃v,e= .returned v/\Grow w w' 25 v ks/\Ext w w':=by
 obtain⟨i0,hi,hz0,hz1,hz2⟩:=info_parts q134;have hcc:=hc;unfold maxLen at hcc;have HCN:=hdq hcn;clear hcn;go_enter Tryz.func70,Tryz.ntmps70;go_wp2_with fail
 go_loopw [3,8] (fun v i wr=> ∃(j:Nat),j<=ks.length/\i= .int .i64 j/\Grow w wr 25 v (ks.take j)/\Ext w wr) (fun _ i _=> ks.length -(intOf i).toNat)
 case atStart=> exact⟨0,Nat.zero_le _,rfl,Grow.nil _ _ _,xr _⟩
 case round=>
  obtain⟨j,hj,rfl,hG,hx⟩:=hrel;by_cases hlt:j < ks.length
  · obtain⟨b,o,k1,n1,A1,p1,kids1,rfl,HK1,c0,c1,c2,l1,m1,hK1,hin1,hmem1⟩:=h.get hx hlt
    have hj':(j:Int) <(ks.length:Int):=by omega
    have hl6:w.heap.size<=wr.heap.size:=hx.size;have htk:=List.take_append_getElem hlt;rw[HK1.out] at htk;have HTK:=hdq htk;have hlen:(ks.take j).length=j:=by rw[List.length_take];omega
    have HLEN:=hdq hlen;clear htk hlen;go_wp2_with fail;have hE:=(xr wr).alloc (.cells #[.int .i64 k1, .int .i64 n1, .slice A1 kids1.length p1] 25);refine(q45 _ _ _ (hin1.ext hE) (by have:=HCN.out _ hmem1;omega)).mono ?_;rintro e w2 ⟨u,rfl,hM,e2⟩;obtain⟨a1,a2,a3,a4,a5,rfl⟩:=hM.three';clear c0 c1 c2;go_wp2_with (at_builtin;refine q33 _ (by rfl) (.tmp 12) (.tmp 15) _ (by rfl) 25 i0 _ Tryz.underlying23 hi hz0 hz1 hz2 rfl (by rfl) hG hx.size (hE.trans e2) (hM.since (by have:=hE.size;omega)) ((xr _).alloc _) (by rfl) (heap_alloc_new _ _) (by rw[HLEN.out];omega) ?_)
    intro v' w5 hG5 hB5;obtain⟨B5,c5,rfl,q1,q2,-⟩:=hG5.made;rw[HTK.out] at hG5;go_wp2_with fail
    go_roundw
    case rel=> exact⟨j+1,by omega,by go_num,by simpa[HTK.out] using hG5,hx.trans' hB5 (Nat.le_refl _)⟩
    case measure=> simp[intOf];omega
  · obtain⟨B5,c5,rfl,q1,q2,hM⟩:=hG.made
    have hjl:ks.take j=ks:=List.take_of_length_le (by omega);rw[hjl] at hG;go_wp2_with fail;go_ret;exact⟨_,rfl,by simpa[hjl] using hG,hx⟩
end Go.Proofs.YtdkamgafpphdjaaGreat
