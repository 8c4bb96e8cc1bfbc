/-
  Lemmas towards the law, 15: Walked, Parse7, Places3, Walked2.
-/
import Derived.Test.YtbnkbepgmenblaaGreatTAN
set_option linter.unusedVariables false
set_option maxHeartbeats 4000000
set_option maxRecDepth 100000
namespace Go.Proofs.YtbnkbepgmenblaaGreat
open Go.RowKit
attribute [local go_sem ↓] Go.wp_at_zero Go.wp_at_succ
def y58(W w:World)(e:TypeId)(v:Value)(ks:List Tr):Prop:= ∃xs,w.ownsRow W.heap.size e 3 v ks.length xs/\RowL w (fun b=> b < W.heap.size) xs ks
theorem y58.nil(W w:World)(e:TypeId):y58 W w e (.slice none 0 0) []:=⟨[],World.ownsRow_nil _ _ _ _,RowL.nil⟩
theorem y58.ext{W w w':World}{e:TypeId}{v:Value}{ks:List Tr}(h:y58 W w e v ks)(hW:W.heap.size<=w.heap.size)(he:Ext w w'):y58 W w' e v ks:=by
 obtain⟨xs,h1,h2⟩:=h;exact⟨xs,j27 h1 (fun g hg=> he.heap g (h1.lt g hg).2),h2.mono (fun _ h=> h) (fun b hb=> he.heap b (Nat.lt_of_lt_of_le hb hW))⟩
theorem y58.set{W w:World}{e:TypeId}{v:Value}{ks:List Tr}(h:y58 W w e v ks){p:Addr}(hp:v.ownBlock≠some p.block)(hW:W.heap.size<=p.block)(u:Value):y58 W (w.setCell p u) e v ks:=by
 obtain⟨xs,h1,h2⟩:=h;exact⟨xs,j27 h1 (fun g hg=> Below.heap_setCell w p u g (fun e=> hp (by rw[<-e];exact hg))),h2.mono (fun _ h=> h) (fun b hb=> Below.heap_setCell w p u b (by omega))⟩
theorem y58.form{W w:World}{e:TypeId}{v:Value}{ks:List Tr}(h:y58 W w e v ks): ∃B c,v= .slice B ks.length c:=by
 obtain⟨xs,h1,h2⟩:=h;rcases h1.2 with⟨rfl,h0⟩ |⟨g,cap,cur,rfl,_⟩
 · exact⟨none,0,by rw[h0]⟩
 · exact⟨_,cap,rfl⟩
theorem y58.lt{W w:World}{e:TypeId}{v:Value}{ks:List Tr}(h:y58 W w e v ks){g:Nat}(hg:v.ownBlock=some g):W.heap.size<=g/\g < w.heap.size:=by
 obtain⟨xs,h1,h2⟩:=h;exact h1.lt g hg
theorem y90{P:Program}(w:World){ops:Array Oper}{rest:List Oper}{o:Oper}{a:Act}{Q:Exit->Act->World->Prop}(hgd:o.guard=none)(s x:Operand)(t:TypeId)
 (ho:o.op= .call {callee:= .builtin .append,args:=#[s,x],argTypes:=#[t,t]})
 (e:TypeId) (i:TypeInfo) (z:Value) (ht:P.underlying t=some (.slice e)) (hi:P.info? e=some i) (hz:i.zero=some z) (hsize:i.size=3) (hby:i.bytes=40) (hzs:z.cells.size=3)
 {W:World} {v:Value} {ks:List Tr} {tr:Tr} {v0 v1 v2:Value} {gx:Nat} (hs:a.eval s=v) (hG:y58 W w e v ks) (hW:W.heap.size<=w.heap.size)
 (hT:InT w (fun b=> b < W.heap.size) tr (.agg #[v0,v1,v2]))
 (hx:a.eval x= .slice (some ⟨gx,0,none⟩) 1 1) (hgx:w.heap[gx]? =some (.cells #[v0,v1,v2] e (0,0))) (hn:ks.length < 1099511627776)
 (h: ∀v' w',y58 W w' e v' (ks++ [tr])->w.grownBy w' v.ownBlock->(∀g,v'.ownBlock=some g->v.ownBlock=some g\/w.heap.size<=g)->wpList P ops Q rest (a.put o.dst v') w'):wpList P ops Q (o::rest) a w:=by
 refine wpList_plain hgd fun K hK=> ?_
 obtain⟨xs,h1,h2⟩:=hG;obtain⟨v',w',hr,r1,r2,r3⟩:=y18 (P:=P) w W.heap.size t o.type e i z 3 40 ht hi hz hsize hby hzs (by decide) v ks.length xs h1 ⟨gx,0,none⟩ 1 1 [v0,v1,v2] rfl (q51 hgx) (q76 hT) (by unfold maxLen;omega) (by omega) hW;have hw: ∀b,b < W.heap.size->w'.heap[b]? =w.heap[b]? :=fun b hb=> r2.block b (Nat.lt_of_lt_of_le hb hW) (fun he=> by have:=(h1.lt b he.symm).1;omega)
 have K5:y58 W w' e v' (ks++ [tr]):=⟨_,by simpa using r1,RowL.snoc (hT.mono (fun _ h=> h) hw) [] h1.1 (h2.mono (fun _ h=> h) hw)⟩;unfold Oper.wp execOp;simp only[ho,resolve,invoke,builtin,Sem.run_bind,Sem.run_pure,Result.andThen_ok,List.map_toArray,List.map_cons,List.map_nil,hs,hx,hr];exact hK _ _ (h v' w' K5 r2 r3)
theorem y172:(Tryz.prog.info? 25).map (fun i=>(i.zero,i.size,i.bytes))=some (some (.agg #[.int .i64 0,.int .i64 0,.slice none 0 0]),3,40):=by kernel_rfl
theorem j98{k n i:Int}{ks:List Tr}{q:List Int}:atT (.mk k n ks) (i::q)=if 0<=i/\i < ks.length then atT (kd ks i.toNat) q else none:=by rw[atT]
theorem y170{k n i:Int}{ks:List Tr}{q:List Int}:bndT (.mk k n ks) (i::q)=if 0<=i/\i < ks.length then(if 0 < und k i.toNat then [kd ks 0] else [])++bndT (kd ks i.toNat) q else []:=by rw[bndT]
theorem q167(t:Tr)(d:Int)(hsh:shape sigT t d=true)(hd:d<=1000)(path:List Int)(w:World)(v:Value)(j7:Lies w t v)(A:Option Addr)(cap:Nat)(hl:path.length<=cap)(hc:cap<=maxLen)(hP:Nums w A path):
 Calls Tryz.prog 50 #[v,.slice A path.length cap] w fun e w'=> ∃x ar,e= .returned (.tuple #[x,ar,.bool (atT t path).isSome])/\Lies w' ((atT t path).getD q16) x/\((atT t path).isSome=true->y58 w w' 25 ar (bndT t path))/\((atT t path).isSome=false->ar= .slice none 0 0)/\Ext w w':=by
 obtain⟨k,n,ks⟩:=t;obtain⟨At,ct,rfl,hlt,p6,tk⟩:=Lies.mk_iff.1 j7;obtain⟨i0,hi,hz0,hz1,hz2⟩:=info_parts y172;have hcc:=hc;unfold maxLen at hcc;have Zk:=p6;unfold maxLen at Zk;have hx0:=((xr w).alloc (.cells #[.int .i64 k,.int .i64 n,.slice At ks.length ct] 25)).alloc (.cells #[.int .i64 0,.int .i64 0,.slice none 0 0] 25);obtain⟨hb0,hb1,hs0⟩:=blk2 (xr ((w.alloc (.cells #[.int .i64 k,.int .i64 n,.slice At ks.length ct] 25)).alloc (.cells #[.int .i64 0,.int .i64 0,.slice none 0 0] 25)));clear j7;go_enter Tryz.func50,Tryz.ntmps50;go_wp2_with fail;generalize World.alloc (World.alloc w _) _=wS at hx0 hb0 hb1 hs0⊢
 go_loopw [7,12] (fun a i wr=> ∃(j:Nat) (k' n':Int) (kids:List Tr) (A':Option Addr) (c':Nat) (d':Int) (acc:List Tr) (B:Option Addr) (l c:Nat),j<=path.length/\i= .int .i64 j/\a= .slice B l c/\y58 w wr 25 (.slice B l c) acc/\acc.length<=j/\(Value.slice B l c).ownBlock≠some w.heap.size/\(Value.slice B l c).ownBlock≠some (w.heap.size+1)/\
  Hid (atT (.mk k n ks) path=atT (.mk k' n' kids) (path.drop j))/\Hid (bndT (.mk k n ks) path=acc++bndT (.mk k' n' kids) (path.drop j))/\shape sigT (.mk k' n' kids) d'=true/\d'+j<=1000/\kids.length<=c'/\c'<=maxLen/\j26 w A' kids/\
  wr.heap[w.heap.size]? =some (.cells #[.int .i64 k',.int .i64 n',.slice A' kids.length c'] 25 (0,0))/\wr.heap[w.heap.size+1]? =some (.cells #[.int .i64 0,.int .i64 0,.slice none 0 0] 25 (0,0))/\Ext w wr) (fun _ i _=> path.length -(intOf i).toNat)
 case atStart=> exact⟨0,k,n,ks,At,ct,d, [],none,0,0,Nat.zero_le _,rfl,rfl,y58.nil _ _ _,Nat.zero_le _,by simp[Value.ownBlock],by simp[Value.ownBlock],hdq rfl,hdq rfl,hsh,by simpa using hd,hlt,p6,tk,hb0,hb1,hx0⟩
 case round=>
  obtain⟨j,k',n',kids,A',c',d',acc,B,l,c,hj,rfl,rfl,hG,hal,ux,sx,HA,HB,xd,R3,K8,L6,hK,hb,F2,hx⟩:=hrel;have hsz:w.heap.size+1 < wr.heap.size:=j10 F2;have hdp:=j41 xd;by_cases Y2:j < path.length
  · obtain⟨bp,op,rfl,cp⟩:=hP.get hx Y2
    have hdr:path.drop j=path[j]::path.drop (j+1):=List.drop_eq_getElem_cons Y2;have N2:=hdq (HA.out.trans (by rw[hdr,j98]));have Ez:=hdq (HB.out.trans (by rw[hdr,y170]));clear HA HB hdr;generalize path[j]=i at cp N2 Ez;have my:(j:Int) <(path.length:Int):=by omega
    obtain⟨j8,-,-,hsk⟩:=q25 xd;obtain⟨z0,z1,z2,f0,f1,f2⟩:=own3 hb;obtain⟨y0,y1,y2,g0,g1,g2⟩:=own3 F2;have Dr:=L6;unfold maxLen at Dr;have Sr:=hdq (q23 i 0 ((kids.length:Int) - 1));have Ky:inR i 0 ((kids.length:Int) - 1)=decide (0<=i/\i <(kids.length:Int)):=by
     unfold inR;rw[<-Bool.decide_and];exact decide_eq_decide.2 (by omega)
    by_cases S7:0<=i/\i <(kids.length:Int)
    · rw[decide_eq_true S7] at Ky
      rw[Ky] at Sr;rw[if_pos S7] at N2 Ez;clear Ky;obtain⟨m,rfl⟩:=Int.eq_ofNat_of_zero_le S7.1;have hm:m < kids.length:=by omega
      have e0:((m:Int)).toNat=m:=by omega
      have Em:=hdq (show atT (.mk k n ks) path=atT (kd kids m) (path.drop (j+1)) by have:=N2.out;rwa [e0] at this);have ye:=hdq (show bndT (.mk k n ks) path=acc++((if 0 < und k' m then [kd kids 0] else [])++bndT (kd kids m) (path.drop (j+1))) by have:=Ez.out;rwa [e0] at this);clear N2 Ez e0;obtain⟨b,o,k2,n2,A2,c2,l8,rfl,HK,e0,e1,e2,Z8,U1,hK2,S0,j5⟩:=hK.get (xr w) hm;have E7:kd kids m= .mk k2 n2 l8:=q43 hm HK.out;have lw:=hsk _ j5;rw[E7] at Em ye;have Ue:(m:Int) <(kids.length:Int):=S7.2;have d0:=hx.cell e0;have d1:=hx.cell e1;have d2:=hx.cell e2;have yg:w.heap.size < wr.heap.size:=by omega
      obtain⟨uu,hu⟩: ∃u,und k' m=u:=⟨_,rfl⟩;have HU:=hdq (fun W=> j82 k' m W);rw[hu] at HU ye;have E0:=hdq e0;have E1:=hdq e1;have E2:=hdq e2;clear E7 hu HK j5 S7 e0 e1 e2;by_cases hu0:0 < uu
      · have hdu:decide (0 < uu)=true:=decide_eq_true hu0
        rw[if_pos hu0] at ye;have h0k:0 < kids.length:=by omega
        obtain⟨b3,o3,k3,n3,A3,c3,o7,Bn,aa,p0,p1,p2,-,-,-,J4,-⟩:=hK.get (xr w) h0k;simp only[Option.some.injEq,Addr.mk.injEq,and_true] at Bn;obtain⟨rfl,rfl⟩:=Bn;simp only[Nat.zero_mul,Nat.add_zero] at p0 p1 p2;have q0:=hx.cell p0;have q1:=hx.cell p1;have q2:=hx.cell p2;have F3:kd kids 0= .mk k3 n3 o7:=q43 h0k aa.out;rw[F3] at ye;have h0i:(0:Int) <(kids.length:Int):=by omega
        have Ko:InT wr (fun b=> b < w.heap.size) (.mk k3 n3 o7) (.agg #[.int .i64 k3,.int .i64 n3,.slice A3 o7.length c3]):=InT.mono (fun _ h=> h) (fun x Xf=> hx.heap x Xf) J4;have un:=(xr wr).alloc (.cells #[.int .i64 k3,.int .i64 n3,.slice A3 o7.length c3] 25);have hT7:InT (wr.alloc (.cells #[.int .i64 k3,.int .i64 n3,.slice A3 o7.length c3] 25)) (fun b=> b < w.heap.size) (.mk k3 n3 o7) (.agg #[.int .i64 k3,.int .i64 n3,.slice A3 o7.length c3]):=InT.mono (fun _ h=> h) (fun x Xf=> un.heap x (by omega)) Ko;have Hm:=hG.ext hx.size un;clear p0 p1 p2 aa F3 J4 Ko;go_wp2_with (first|(go_at_call 62;refine(Sr.out _).mono ?_;rintro e w1 ⟨rfl,rfl⟩) |(go_at_call 107;refine(HU.out _).mono ?_;rintro e w1 ⟨rfl,rfl⟩) |(at_builtin;refine y90 _ rfl (.tmp 29) (.tmp 34) 23 rfl 25 i0 _ Tryz.underlying23 hi hz0 hz1 hz2 rfl rfl Hm (by simp;omega) hT7 rfl (heap_alloc_new _ _) (by omega) ?_))
        intro v6 w6 K4 F5 K0;have xz:v6.ownBlock≠some w.heap.size:=fun h=> by
         rcases K0 _ h with h|h
         · exact ux h
         · first|omega|(simp at h;omega)
        have Ol:v6.ownBlock≠some (w.heap.size+1):=fun h=> by
         rcases K0 _ h with h|h
         · exact sx h
         · first|omega|(simp at h;omega)
        have bf:=(F5.block w.heap.size (by simp;omega) (fun h=> ux h.symm)).trans (un.blk hb);have Sc:=(F5.block (w.heap.size+1) (by simp;omega) (fun h=> sx h.symm)).trans (un.blk F2);have em:Ext w w6:=(hx.trans un).grown F5 (fun g hg=>(hG.lt hg).1);obtain⟨B6,c6,rfl⟩:=K4.form;obtain⟨l6,Xi⟩: ∃l,(acc++ [Tr.mk k3 n3 o7]).length=l:=⟨_,rfl⟩;have Yg:(acc++ [Tr.mk k3 n3 o7]).length<=j+1:=by simp;omega
        rw[Xi] at K4 xz Ol⊢;have mb:w.heap.size+1 < w6.heap.size:=j10 Sc;have ry:=hdq K4;clear K4 F5 K0 Hm hT7 un z0 z1 z2 f0 f1 f2 y0 y1 y2 g0 g1 g2 d0 d1 d2 q0 q1 q2 hG hb F2 cp Xi;obtain⟨z0,z1,z2,f0,f1,f2⟩:=own3 bf;have d0:=em.cell E0.out;have d1:=em.cell E1.out;have d2:=em.cell E2.out;have hwl6:w.heap.size < w6.heap.size:=by omega
        go_wp2_with fail
        go_roundw
        case rel=> exact⟨j+1,k2,n2,l8,A2,c2,d' - 1,_,B6,l6,c6,by omega,by go_num,rfl,((ry.out.set xz (by simp) _).set xz (by simp) _).set xz (by simp) _,Yg,xz,Ol,Em,hdq (by rw[ye.out,List.append_assoc]),lw,by omega,Z8,U1,hK2,j11 (j11 (j11 bf 0 _) 1 _) 2 _,q13 (q13 (q13 Sc (by simp) _) (by simp) _) (by simp) _,((em.setCell (by simp) _).setCell (by simp) _).setCell (by simp) _⟩
        case measure=> simp[intOf];omega
      · have hdu:decide (0 < uu)=false:=decide_eq_false hu0
        rw[if_neg hu0,List.nil_append] at ye;have ry:=hdq hG;clear hG;go_wp2_with (first|(go_at_call 62;refine(Sr.out _).mono ?_;rintro e w1 ⟨rfl,rfl⟩) |(go_at_call 107;refine(HU.out _).mono ?_;rintro e w1 ⟨rfl,rfl⟩))
        go_roundw
        case rel=> exact⟨j+1,k2,n2,l8,A2,c2,d' - 1,acc,B,l,c,by omega,by go_num,rfl,((ry.out.set ux (by simp) _).set ux (by simp) _).set ux (by simp) _,by omega,ux,sx,Em,ye,lw,by omega,Z8,U1,hK2,j11 (j11 (j11 hb 0 _) 1 _) 2 _,q13 (q13 (q13 F2 (by simp) _) (by simp) _) (by simp) _,((hx.setCell (by simp) _).setCell (by simp) _).setCell (by simp) _⟩
        case measure=> simp[intOf];omega
    · rw[decide_eq_false S7] at Ky
      rw[Ky] at Sr;rw[if_neg S7] at N2;clear Ky Ez;go_wp2_with (go_at_call 62;refine(Sr.out _).mono ?_;rintro e w1 ⟨rfl,rfl⟩)
      refine bodyPost_ret (v:= .tuple #[.agg #[.int .i64 0,.int .i64 0,.slice none 0 0],.slice none 0 0,.bool false]) (by simp[results,Tryz.results50,go_sem,y0,y1,y2]) rfl ⟨_,_,by rw[N2.out];rfl, ?_, ?_, ?_, ?_⟩
      · rw[N2.out];exact Lies.leaf _ _ _
      · rw[N2.out];intro h;cases h
      · intro _;rfl
      · exact((hx.setCell (by simp) _).setCell (by simp) _).setCell (by simp) _
  · have mq:path.drop j= []:=List.drop_of_length_le (by omega)
    have N2:=hdq (show atT (.mk k n ks) path=some (.mk k' n' kids) by rw[HA.out,mq];rfl);have Ez:=hdq (show bndT (.mk k n ks) path=acc by rw[HB.out,mq];simp[bndT]);obtain⟨z0,z1,z2,f0,f1,f2⟩:=own3 hb;obtain⟨y0,y1,y2,g0,g1,g2⟩:=own3 F2;have ry:=hdq hG;have yg:w.heap.size < wr.heap.size:=by omega
    clear HA HB hG mq;go_wp2_with fail;refine bodyPost_ret (v:= .tuple #[.agg #[.int .i64 k',.int .i64 n',.slice A' kids.length c'],.slice B l c,.bool true]) (by simp[results,Tryz.results50,go_sem,y0,y1,y2]) rfl ⟨_,_,by rw[N2.out];rfl, ?_, ?_, ?_, ?_⟩
    · rw[N2.out]
      exact Lies.mk K8 L6 (hK.ext (((hx.setCell (by simp) _).setCell (by simp) _).setCell (by simp) _))
    · intro _
      rw[Ez.out];exact((ry.out.set sx (by simp) _).set sx (by simp) _).set sx (by simp) _
    · rw[N2.out];intro h;cases h
    · exact((hx.setCell (by simp) _).setCell (by simp) _).setCell (by simp) _
end Go.Proofs.YtbnkbepgmenblaaGreat
namespace Go.Proofs.YtbnkbepgmenblaaGreat
open Go.RowKit
theorem ofL_tl(l:List UInt8):(ofL l).toList=l:=by rw[ByteArray.toList_eq,q154]
theorem y176{l:List UInt8}{t:Tr}{b:Nat}(h:prs 30 l 0=some (t,b)):prsV l=if l≠ []/\b=l.length/\fmtV t=l then some t else none:=by
 unfold prsV;rw[h]
theorem y191{l:List UInt8}(h:prs 30 l 0=none):prsV l=none:=by
 unfold prsV;rw[h]
theorem j125(s:ByteArray)(w:World)(hs:s.size<=1000000000):Calls Tryz.prog 149 #[.string s] w fun e w'=> ∃u,e= .returned (.tuple #[u,.bool (prsV s.data.toList).isSome])/\From w.heap.size w' ((prsV s.data.toList).getD (.mk 0 0 [])) u/\Ext w w':=by
 have HP:=hdq (fun W=>(show Calls Tryz.prog 182 #[.string s,.int .i64 0,.int .i64 30] W (j21 W.heap.size W s.size (prs 30 s.data.toList 0)) from q138 30 (by omega) s 0 W hs (by omega)));have hlen:s.data.toList.length=s.size:=by rw[Array.length_toList];rfl
 have bi:=ByteArray.toList_eq s;obtain⟨R,hR⟩: ∃R,R=prsV s.data.toList:=⟨_,rfl⟩;rw[<-hR];obtain⟨F,Cx⟩: ∃F,F=prs 30 s.data.toList 0:=⟨_,rfl⟩;rw[<-Cx] at HP;cases F with
 |none=>
  have H7:R=none:=by rw[hR];exact y191 Cx.symm
  have HR:=hdq H7;obtain⟨be,hbe⟩: ∃be,s.toList.isEmpty=be:=⟨_,rfl⟩;have Yf:(s.toList== [])=be:=by rw[<-hbe];cases s.toList <;> rfl
  have t1:((-1:Int) !=(s.size:Int))=true:=by rw[bne_iff_ne];omega
  clear hR Cx hlen bi H7;cases be
  all_goals(
   go_enter Tryz.func149,Tryz.ntmps149;go_wp2_with fail;refine(HP.out _).mono ?_;rintro e w1 ⟨t,u,nx,rfl,hF,e1,-,q2⟩;obtain rfl:=q2 rfl;obtain⟨k0,n0,A0,l0,c0,rfl⟩:=hF.three;have hx1:=(((xr w).alloc (.cells #[.int .i64 0,.int .i64 0,.slice none 0 0] 25)).trans e1).trans ((xr w1).alloc (.cells #[.int .i64 k0,.int .i64 n0,.slice A0 l0 c0] 25));have hb':=((xr w1).alloc (.cells #[.int .i64 k0,.int .i64 n0,.slice A0 l0 c0] 25)).blk e1.newBlk;obtain⟨s0,s1,s2,f0,f1,f2⟩:=own3 hb';clear hb' q2;go_wp2_with fail;exact bodyPost_ret (v:= .tuple #[.agg #[.int .i64 0,.int .i64 0,.slice none 0 0],.bool false]) (by simp[results,Tryz.results149,go_sem,s0,s1,s2]) rfl ⟨_,by rw[HR.out];rfl,by rw[HR.out];exact From.leaf _ _ _ _,((hx1.setCell (by simp) _).setCell (by simp) _).setCell (by simp) _⟩)
 |some y=>
  obtain⟨t,b⟩:=y;have J1:R=if s.data.toList≠ []/\b=s.data.toList.length/\fmtV t=s.data.toList then some t else none:=by rw[hR];exact y176 Cx.symm
  have hne:s.data.toList≠ []:=by
   intro h;rw[h] at Cx;rw[q157 (by simp)] at Cx;cases Cx
  have hbe:s.toList.isEmpty=false:=by rw[bi];cases hq:s.data.toList with|nil=> exact absurd hq hne|cons=> rfl
  have Yf:(s.toList== [])=false:=by rw[bi];cases hq:s.data.toList with|nil=> exact absurd hq hne|cons=> rfl
  have hbe3: ¬(s.toList= []):=by rw[bi];exact hne
  rw[hlen] at J1;by_cases hb:b=s.size
  · obtain⟨fv,Kd⟩: ∃fv,fv=fmtV t:=⟨_,rfl⟩
    rw[<-Kd] at J1;have HF:=hdq (fun W v (h:Lies W t v)=> j111 t W v h);rw[<-Kd] at HF;have t1:((b:Int) !=(s.size:Int))=false:=by simp[hb]
    obtain⟨bq,hbq⟩: ∃bq,((ofL fv).toList==s.toList)=bq:=⟨_,rfl⟩;have hRb:R=if bq=true then some t else none:=by
     rw[J1,<-hbq,ofL_tl,bi];by_cases hq:fv=s.data.toList
     · rw[if_pos ⟨hne,hb,hq⟩,if_pos (by rw[hq];simp)]
     · rw[if_neg (fun h=> hq h.2.2),if_neg (by simpa using hq)]
    have HR:=hdq hRb;have HFV:=hdq hbq;clear hR Cx J1 hne bi Kd hRb hlen hb;go_enter Tryz.func149,Tryz.ntmps149;go_wp2_with fail;refine(HP.out _).mono ?_;rintro e w1 ⟨t',u,nx,rfl,hF,e1,q1,-⟩;obtain⟨h1,h2,h3⟩:=q1 _ rfl;simp only at h1 h2 h3;subst h1 h2;obtain⟨k0,n0,A0,l0,c0,rfl⟩:=hF.three;have hsz:=e1.size_alloc;have hx1:=(((xr w).alloc (.cells #[.int .i64 0,.int .i64 0,.slice none 0 0] 25)).trans e1).trans ((xr w1).alloc (.cells #[.int .i64 k0,.int .i64 n0,.slice A0 l0 c0] 25));have hb':=((xr w1).alloc (.cells #[.int .i64 k0,.int .i64 n0,.slice A0 l0 c0] 25)).blk e1.newBlk;have T7:=heap_alloc_new w1 (.cells #[.int .i64 k0,.int .i64 n0,.slice A0 l0 c0] 25);have hFT:From (w.heap.size+1) (w1.alloc (.cells #[.int .i64 k0,.int .i64 n0,.slice A0 l0 c0] 25)) t' (.agg #[.int .i64 k0,.int .i64 n0,.slice A0 l0 c0]):=by simpa using hF.ext ((xr w1).alloc (.cells #[.int .i64 k0,.int .i64 n0,.slice A0 l0 c0] 25))
    clear hF hsz q1;go_wp2_with fail;refine(HF.out _ _ hFT.lies).mono ?_;rintro e w2 ⟨rfl,e2⟩;have hx2:=hx1.trans e2;have hF2:=hFT.ext e2;obtain⟨s0,s1,s2,f0,f1,f2⟩:=own3 (e2.blk hb');obtain⟨x0,x1,x2,-,-,-⟩:=own3 (e2.blk T7);have hq:=HFV.out;clear hb' T7;cases bq with
    |false=>
     go_wp2_with fail;exact bodyPost_ret (v:= .tuple #[.agg #[.int .i64 0,.int .i64 0,.slice none 0 0],.bool false]) (by simp[results,Tryz.results149,go_sem,s0,s1,s2]) rfl ⟨_,by rw[HR.out];rfl,by rw[HR.out];exact From.leaf _ _ _ _,((hx2.setCell (by simp) _).setCell (by simp) _).setCell (by simp) _⟩
    |true=>
     go_wp2_with fail;exact bodyPost_ret (v:= .tuple #[.agg #[.int .i64 k0,.int .i64 n0,.slice A0 l0 c0],.bool true]) (by simp[results,Tryz.results149,go_sem,s0,s1,s2]) rfl ⟨_,by rw[HR.out];rfl,by rw[HR.out];exact(((hF2.set (by simp) _).set (by simp) _).set (by simp) _).since (by omega),((hx2.setCell (by simp) _).setCell (by simp) _).setCell (by simp) _⟩
  · have H7:R=none:=by rw[J1,if_neg (fun h=> hb h.2.1)]
    have HR:=hdq H7;have t1:((b:Int) !=(s.size:Int))=true:=by rw[bne_iff_ne];omega
    clear hR Cx J1 hne bi H7 hlen hb;go_enter Tryz.func149,Tryz.ntmps149;go_wp2_with fail;refine(HP.out _).mono ?_;rintro e w1 ⟨t',u,nx,rfl,hF,e1,q1,-⟩;obtain⟨h1,h2,h3⟩:=q1 _ rfl;simp only at h1 h2 h3;subst h1 h2;obtain⟨k0,n0,A0,l0,c0,rfl⟩:=hF.three;have hx1:=(((xr w).alloc (.cells #[.int .i64 0,.int .i64 0,.slice none 0 0] 25)).trans e1).trans ((xr w1).alloc (.cells #[.int .i64 k0,.int .i64 n0,.slice A0 l0 c0] 25));have hb':=((xr w1).alloc (.cells #[.int .i64 k0,.int .i64 n0,.slice A0 l0 c0] 25)).blk e1.newBlk;obtain⟨s0,s1,s2,f0,f1,f2⟩:=own3 hb';clear hb' q1;go_wp2_with fail;exact bodyPost_ret (v:= .tuple #[.agg #[.int .i64 0,.int .i64 0,.slice none 0 0],.bool false]) (by simp[results,Tryz.results149,go_sem,s0,s1,s2]) rfl ⟨_,by rw[HR.out];rfl,by rw[HR.out];exact From.leaf _ _ _ _,((hx1.setCell (by simp) _).setCell (by simp) _).setCell (by simp) _⟩
end Go.Proofs.YtbnkbepgmenblaaGreat
namespace Go.Proofs.YtbnkbepgmenblaaGreat
open Go.RowKit
attribute [local go_sem ↓] Go.wp_at_zero Go.wp_at_succ
theorem j182(rd:Bool)(t:Tr):plV rd t=if valid sigT t=true then plc (askP rd) t [] else []:=by
 have e:(if rd=true then j55 else allP)=askP rd:=by
  cases rd
  · funext x;rfl
  · funext x;rfl
 unfold plV;rw[e]
theorem y182(rd:Bool)(t:Tr):(plV rd t).length<=400:=by
 unfold plV
 split
 · rename_i h
   have:=y162 (if rd=true then j55 else allP) t [];have:=(q14 h).1;omega
 · simp
theorem j95(t:Tr)(w:World)(v:Value)(j7:Lies w t v):Calls Tryz.prog 105 #[v] w fun e w'=> ∃x,e= .returned x/\y24 w w' 26 x (plV false t)/\Ext w w':=by
 have HV:=hdq (fun W (hW:Ext w W)=> q28 t W v (j7.ext hW));have E:=hdq (j182 false t);have HB:=hdq (fun(h:valid sigT t=true)=> q14 h);obtain⟨z,hz⟩: ∃z,valid sigT t=z:=⟨_,rfl⟩;rw[hz] at HV E HB;clear hz;obtain⟨k,n,ks⟩:=t;have D3:=j7;obtain⟨A,cap,rfl,hl,hc,hK⟩:=Lies.mk_iff.1 j7;have hx0:=(xr w).alloc (.cells #[.int .i64 k,.int .i64 n,.slice A ks.length cap] 25);have L5:=heap_alloc_new w (.cells #[.int .i64 k,.int .i64 n,.slice A ks.length cap] 25);cases z with
 |false=>
  have E2:=hdq (E.out.trans (if_neg (by decide)));clear E HB;go_enter Tryz.func105,Tryz.ntmps105;go_wp2_with fail;refine(HV.out _ hx0).mono ?_;rintro e w1 ⟨rfl,h1⟩;go_wp2_with fail;go_ret;exact⟨_,rfl,by rw[E2.out];exact y24.lit (heap_alloc_new w1 _) (hx0.trans h1).size,(hx0.trans h1).alloc _⟩
 |true=>
  have E2:=hdq (E.out.trans (if_pos rfl));have hcs:=HB.out rfl;clear E HB;go_enter Tryz.func105,Tryz.ntmps105;go_wp2_with fail;refine(HV.out _ hx0).mono ?_;rintro e w1 ⟨rfl,h1⟩;obtain⟨z0,z1,z2,-,-,-⟩:=own3 (h1.blk L5);have lz:=j10 (h1.blk L5);have hx2:=(xr w1).alloc (.cells #[] 26);have hx3:=hx2.alloc (.cells #[] 3);have hG:y24 w ((w1.alloc (.cells #[] 26)).alloc (.cells #[] 3)) 26 (.slice (some ⟨w1.heap.size,0,none⟩) 0 0) []:=(y24.lit (heap_alloc_new w1 _) (hx0.trans h1).size).ext ((xr _).alloc _);have hP:q20 ((w1.alloc (.cells #[] 26)).alloc (.cells #[] 3)) (fun b=> b <((w1.alloc (.cells #[] 26)).alloc (.cells #[] 3)).heap.size/\(Value.slice (some ⟨w1.heap.size,0,none⟩) 0 0).ownBlock≠some b) (.slice (some ⟨w1.heap.size+1,0,none⟩) 0 0) []:= .inr ⟨w1.heap.size+1,0,0,rfl,Nat.le_refl _,Nat.zero_le _,⟨by simp,by simp[Value.ownBlock]⟩,fun j hj=> absurd hj (by simp)⟩;have dh: ∀b,b∈(Value.slice (some ⟨w1.heap.size,0,none⟩) 0 0).ownBlock.toList->w.heap.size<=b:=fun b hb=> by
   simp[Value.ownBlock] at hb
   have:=(hx0.trans h1).size;omega
  have yw:=hdq (q95 (.mk k n ks) w _ _ _ _ [] [] 30 false hcs.2 D3 ((hx0.trans h1).trans hx3) hG hP (by have:=hcs.1;simp;omega) (by have:=hcs.1;simp;omega));clear L5 hG hP hcs hx2;go_wp2_with fail;refine yw.out.mono ?_;rintro e w2 ⟨x,rfl,N4,M4,-⟩;have M5:Ext w w2:=M4.ext ((hx0.trans h1).trans hx3) dh;clear M4 dh;go_wp2_with fail;go_ret;exact⟨_,rfl,by rw[E2.out];exact N4,M5⟩
theorem q77(t:Tr)(w:World)(v:Value)(j7:Lies w t v):Calls Tryz.prog 106 #[v] w fun e w'=> ∃x,e= .returned x/\y24 w w' 26 x (plV true t)/\Ext w w':=by
 have HV:=hdq (fun W (hW:Ext w W)=> q28 t W v (j7.ext hW));have E:=hdq (j182 true t);have HB:=hdq (fun(h:valid sigT t=true)=> q14 h);obtain⟨z,hz⟩: ∃z,valid sigT t=z:=⟨_,rfl⟩;rw[hz] at HV E HB;clear hz;obtain⟨k,n,ks⟩:=t;have D3:=j7;obtain⟨A,cap,rfl,hl,hc,hK⟩:=Lies.mk_iff.1 j7;have hx0:=(xr w).alloc (.cells #[.int .i64 k,.int .i64 n,.slice A ks.length cap] 25);have L5:=heap_alloc_new w (.cells #[.int .i64 k,.int .i64 n,.slice A ks.length cap] 25);cases z with
 |false=>
  have E2:=hdq (E.out.trans (if_neg (by decide)));clear E HB;go_enter Tryz.func106,Tryz.ntmps106;go_wp2_with fail;refine(HV.out _ hx0).mono ?_;rintro e w1 ⟨rfl,h1⟩;go_wp2_with fail;go_ret;exact⟨_,rfl,by rw[E2.out];exact y24.lit (heap_alloc_new w1 _) (hx0.trans h1).size,(hx0.trans h1).alloc _⟩
 |true=>
  have E2:=hdq (E.out.trans (if_pos rfl));have hcs:=HB.out rfl;clear E HB;go_enter Tryz.func106,Tryz.ntmps106;go_wp2_with fail;refine(HV.out _ hx0).mono ?_;rintro e w1 ⟨rfl,h1⟩;obtain⟨z0,z1,z2,-,-,-⟩:=own3 (h1.blk L5);have lz:=j10 (h1.blk L5);have hx2:=(xr w1).alloc (.cells #[] 26);have hx3:=hx2.alloc (.cells #[] 3);have hG:y24 w ((w1.alloc (.cells #[] 26)).alloc (.cells #[] 3)) 26 (.slice (some ⟨w1.heap.size,0,none⟩) 0 0) []:=(y24.lit (heap_alloc_new w1 _) (hx0.trans h1).size).ext ((xr _).alloc _);have hP:q20 ((w1.alloc (.cells #[] 26)).alloc (.cells #[] 3)) (fun b=> b <((w1.alloc (.cells #[] 26)).alloc (.cells #[] 3)).heap.size/\(Value.slice (some ⟨w1.heap.size,0,none⟩) 0 0).ownBlock≠some b) (.slice (some ⟨w1.heap.size+1,0,none⟩) 0 0) []:= .inr ⟨w1.heap.size+1,0,0,rfl,Nat.le_refl _,Nat.zero_le _,⟨by simp,by simp[Value.ownBlock]⟩,fun j hj=> absurd hj (by simp)⟩;have dh: ∀b,b∈(Value.slice (some ⟨w1.heap.size,0,none⟩) 0 0).ownBlock.toList->w.heap.size<=b:=fun b hb=> by
   simp[Value.ownBlock] at hb
   have:=(hx0.trans h1).size;omega
  have yw:=hdq (q95 (.mk k n ks) w _ _ _ _ [] [] 30 true hcs.2 D3 ((hx0.trans h1).trans hx3) hG hP (by have:=hcs.1;simp;omega) (by have:=hcs.1;simp;omega));clear L5 hG hP hcs hx2;go_wp2_with fail;refine yw.out.mono ?_;rintro e w2 ⟨x,rfl,N4,M4,-⟩;have M5:Ext w w2:=M4.ext ((hx0.trans h1).trans hx3) dh;clear M4 dh;go_wp2_with fail;go_ret;exact⟨_,rfl,by rw[E2.out];exact N4,M5⟩
def outP(t:Tr):List Int:=(outT t).getD []
def OutC(t:Tr):Prop:= ∀(w:World) (v:Value) (d:Int),shape sigT t d=true->Lies w t v->d<=1000->Calls Tryz.prog 121 #[v] w fun e w'=> ∃x,e= .returned (.tuple #[x,.bool (outT t).isSome])/\w'.ownsRow w.heap.size 3 1 x (outP t).length ((outP t).map (Value.int .i64))/\Ext w w'
theorem y171: ∀t:Tr,OutC t:=Tr.ind fun k n ks hk=> by
 intro w v d hsh j7 hd;have HR:=hdq (fun V (hV:Ext w V)=> j35 (.mk k n ks) d hsh V v (j7.ext hV));have hol:=q127 (.mk k n ks) d hsh;obtain⟨-,-,-,hsk⟩:=q25 hsh;obtain⟨A,cap,rfl,hl,hc,hK⟩:=Lies.mk_iff.1 j7;obtain⟨i0,hi,hz0,hz1,hz2⟩:=info_parts y124;have hcc:=hc;unfold maxLen at hcc;have ho:outT (.mk k n ks)=if rdx k ks=0 then j53 0 ks else some []:=by rw[outT]
 have hx0:=(xr w).alloc (.cells #[.int .i64 k,.int .i64 n,.slice A ks.length cap] 25);have L5:=heap_alloc_new w (.cells #[.int .i64 k,.int .i64 n,.slice A ks.length cap] 25);obtain⟨r,hr⟩: ∃r,rdx k ks=r:=⟨_,rfl⟩;have ie:=hdq (show∀V,Ext w V->Calls Tryz.prog 51 #[.agg #[.int .i64 k,.int .i64 n,.slice A ks.length cap]] V fun e w'=> e= .returned (.int .i64 r)/\Ext V w' from fun V hV=> by have:=HR.out V hV;rw[show rdxT (.mk k n ks)=r from hr] at this;exact this);rw[hr] at ho;clear hr HR;by_cases h0:r=0
 · rw[if_pos h0] at ho
   have hb0:(r !=0)=false:=by rw[h0];rfl
   subst h0;have HO:=hdq ho;clear ho j7;go_enter Tryz.func121,Tryz.ntmps121;go_wp2_with fail;refine(ie.out _ hx0).mono ?_;rintro e w1 ⟨rfl,h1⟩;obtain⟨z0,z1,z2,-,-,-⟩:=own3 (h1.blk L5);have lz:=j10 (h1.blk L5);have hx1:=hx0.trans h1;clear L5 h1 hx0 ie;go_wp2_with fail;clear z0 z1 z2 lz
   go_loopw [14] (fun i wr=> ∃(j:Nat),j<=ks.length/\i= .int .i64 j/\Hid (j53 0 ks=j53 j (ks.drop j))/\Ext w wr) (fun i _=> ks.length -(intOf i).toNat)
   case atStart=> exact⟨0,Nat.zero_le _,rfl,hdq rfl,hx1⟩
   case round=>
    obtain⟨j,hj',rfl,HE,hx⟩:=hrel;by_cases hlt:j < ks.length
    · obtain⟨b,o,k',n',A',cap',kids,rfl,HK,c0,c1,c2,K8,L6,hK',D6,j5⟩:=hK.get hx hlt
      have hst:j53 j (ks.drop j)=match outT (.mk k' n' kids) with|some p=> some ((j:Int)::p) |none=> j53 (j+1) (ks.drop (j+1)):=by
       rw[List.drop_eq_getElem_cons hlt,HK.out];conv=> lhs;unfold j53
       rfl
      have Dc:=q127 (.mk k' n' kids) (d - 1) (hsk _ j5);have Z5:=(xr wr).alloc (.cells #[.int .i64 k',.int .i64 n',.slice A' kids.length cap'] 25);have HC:=hdq (hk _ j5 _ _ (d - 1) (hsk _ j5) (D6.ext Z5) (by omega));have hpe:outP (.mk k' n' kids)=(outT (.mk k' n' kids)).getD []:=rfl;rw[hpe] at HC;clear hpe;generalize outT (.mk k' n' kids)=q at hst Dc HC;have my:(j:Int) <(ks.length:Int):=by omega
      clear hol D6;go_wp2_with fail;refine HC.out.mono ?_;rintro e w2 ⟨x,rfl,hq,h2⟩;have hx2:=(hx.trans Z5).trans h2;cases q with
      |some p=>
       have hpl:=Dc p rfl;simp only[Option.getD_some] at hq;simp only at hst;have gu:=hdq ((HO.out.trans HE.out).trans hst);have lg:=j31 hq;obtain⟨Bq,cq,rfl,-,-,-⟩:=q26 hq;have hx3:=(xr w2).alloc (.cells #[.int .i64 j] 3);have hG:(w2.alloc (.cells #[.int .i64 j] 3)).ownsRow w2.heap.size 3 1 (.slice (some ⟨w2.heap.size,0,none⟩) 1 1) ([(j:Int)]).length (([(j:Int)]).map (Value.int .i64)):=World.ownsRow_lit w2 #[.int .i64 j] 1 (Nat.le_refl _) (by decide) rfl;have cf:=lg.ext hx3;clear hst HC HE HO lg hq Dc;go_wp2_with (at_builtin;refine y17 _ rfl (.tmp 26) (.tmp 27) 26 rfl w2.heap.size 3 i0 _ 8 Tryz.underlying26 hi hz0 hz1 hz2 (by decide) rfl (ns:= [(j:Int)]) (p:=p) rfl hG (by simp) rfl cf (by simp;omega) ?_)
       intro va wa K9 O8 fw;have yx:Ext w wa:=hx2.trans (hx3.grown O8 (by intro g hg;simp[Value.ownBlock] at hg;omega));have hsz:=hx2.size;have ma:wa.ownsRow w.heap.size 3 1 va ((j:Int)::p).length ((((j:Int)::p)).map (Value.int .i64)):=q32 K9 hsz;have Aq:=hdq ma;clear K9 O8 fw ma;go_wp2_with fail;go_ret2;have Qt:outP (.mk k n ks)=(j:Int)::p:=by unfold outP;rw[gu.out];rfl
       exact⟨_,by rw[gu.out];rfl,by rw[Qt];exact Aq.out,yx⟩
      |none=>
       simp only at hst;have Qw:=hdq (HE.out.trans hst);clear hst HC hq Dc;go_wp2_with fail
       go_roundw
       case rel=> exact⟨j+1,by omega,by go_num,Qw,hx2⟩
       case measure=> simp[intOf];omega
    · have gu:=hdq ((HO.out.trans HE.out).trans (show j53 j (ks.drop j)=none by rw[List.drop_of_length_le (by omega),j53]))
      clear HE HO;go_wp2_with fail;go_ret2;have Qt:outP (.mk k n ks)= []:=by unfold outP;rw[gu.out];rfl
      exact⟨_,by rw[gu.out];rfl,by rw[Qt];exact World.ownsRow_nil _ _ _ _,hx⟩
 · rw[if_neg h0] at ho
   have hb0:(r !=0)=true:=bne_iff_ne.2 h0;have HO:=hdq ho;clear ho;go_enter Tryz.func121,Tryz.ntmps121;go_wp2_with fail;refine(ie.out _ hx0).mono ?_;rintro e w1 ⟨rfl,h1⟩;go_wp2_with fail;go_ret2;have Qt:outP (.mk k n ks)= []:=by unfold outP;rw[HO.out];rfl
   exact⟨_,by rw[HO.out];rfl,by rw[Qt];exact World.ownsRow_nil _ _ _ _,hx0.trans h1⟩
theorem y148: ∀(a:List Int) (t u:Tr),atT t a=some u->cnt u<=cnt t
 | [],t,u,e=> by
  have e:t=u:=by cases t;simpa[atT] using e
  subst e;exact Nat.le_refl _
 |i::a,.mk k n ks,u,e=> by
  rw[atT] at e
  split at e
  · rename_i hi
    have h1:=y148 a _ u e;have h2:=y15 (j68 (ks:=ks) (i:=i.toNat) (by omega));rw[cnt];omega
  · cases e
def atV(t:Tr)(p:List Int):Tr×Bool:=if valid sigT t=true then((atT t p).getD q16,(atT t p).isSome) else(q16,false)
theorem j222(t:Tr)(d:Int)(hsh:shape sigT t d=true)(hd:d<=1000)(path:List Int)(w:World)(v:Value)(j7:Lies w t v)(A:Option Addr)(cap:Nat)(hl:path.length<=cap)(hc:cap<=maxLen)(hP:Nums w A path):
 Calls Tryz.prog 112 #[v,.slice A path.length cap] w fun e w'=> ∃x,e= .returned (.tuple #[x,.bool (atT t path).isSome])/\Lies w' ((atT t path).getD q16) x/\Ext w w':=by
 obtain⟨k,n,ks⟩:=t;obtain⟨At,ct,rfl,hlt,p6,tk⟩:=Lies.mk_iff.1 j7;have hcc:=hc;unfold maxLen at hcc;have hx0:=((xr w).alloc (.cells #[.int .i64 k,.int .i64 n,.slice At ks.length ct] 25)).alloc (.cells #[.int .i64 0,.int .i64 0,.slice none 0 0] 25);obtain⟨hb0,hb1,hs0⟩:=blk2 (xr ((w.alloc (.cells #[.int .i64 k,.int .i64 n,.slice At ks.length ct] 25)).alloc (.cells #[.int .i64 0,.int .i64 0,.slice none 0 0] 25)));clear j7;go_enter Tryz.func112,Tryz.ntmps112;go_wp2_with fail;generalize World.alloc (World.alloc w _) _=wS at hx0 hb0 hb1 hs0⊢
 go_loopw [6] (fun i wr=> ∃(j:Nat) (k' n':Int) (kids:List Tr) (A':Option Addr) (c':Nat) (d':Int),j<=path.length/\i= .int .i64 j/\
  Hid (atT (.mk k n ks) path=atT (.mk k' n' kids) (path.drop j))/\shape sigT (.mk k' n' kids) d'=true/\d'+j<=1000/\kids.length<=c'/\c'<=maxLen/\j26 w A' kids/\
  wr.heap[w.heap.size]? =some (.cells #[.int .i64 k',.int .i64 n',.slice A' kids.length c'] 25 (0,0))/\wr.heap[w.heap.size+1]? =some (.cells #[.int .i64 0,.int .i64 0,.slice none 0 0] 25 (0,0))/\Ext w wr) (fun i _=> path.length -(intOf i).toNat)
 case atStart=> exact⟨0,k,n,ks,At,ct,d,Nat.zero_le _,rfl,hdq rfl,hsh,by simpa using hd,hlt,p6,tk,hb0,hb1,hx0⟩
 case round=>
  obtain⟨j,k',n',kids,A',c',d',hj,rfl,HA,xd,R3,K8,L6,hK,hb,F2,hx⟩:=hrel;have hsz:w.heap.size+1 < wr.heap.size:=j10 F2;have hdp:=j41 xd;by_cases Y2:j < path.length
  · obtain⟨bp,op,rfl,cp⟩:=hP.get hx Y2
    have hdr:path.drop j=path[j]::path.drop (j+1):=List.drop_eq_getElem_cons Y2;have N2:=hdq (HA.out.trans (by rw[hdr,j98]));clear HA hdr;generalize path[j]=i at cp N2;have my:(j:Int) <(path.length:Int):=by omega
    have jc:(0:Int)<=(j:Int):=Int.natCast_nonneg _;obtain⟨j8,-,-,hsk⟩:=q25 xd;obtain⟨z0,z1,z2,f0,f1,f2⟩:=own3 hb;obtain⟨y0,y1,y2,g0,g1,g2⟩:=own3 F2;have Dr:=L6;unfold maxLen at Dr;by_cases S7:0<=i/\i <(kids.length:Int)
    · rw[if_pos S7] at N2
      obtain⟨m,rfl⟩:=Int.eq_ofNat_of_zero_le S7.1;have hm:m < kids.length:=by omega
      have e0:((m:Int)).toNat=m:=by omega
      have Em:=hdq (show atT (.mk k n ks) path=atT (kd kids m) (path.drop (j+1)) by have:=N2.out;rwa [e0] at this);clear N2 e0;obtain⟨b,o,k2,n2,A2,c2,l8,rfl,HK,e0,e1,e2,Z8,U1,hK2,S0,j5⟩:=hK.get (xr w) hm;have E7:kd kids m= .mk k2 n2 l8:=q43 hm HK.out;have lw:=hsk _ j5;rw[E7] at Em;have Ue:(m:Int) <(kids.length:Int):=S7.2;have Ya:(0:Int)<=(m:Int):=S7.1;have dl1:decide ((m:Int) < 0)=false:=decide_eq_false (by omega);have dl2:decide ((kids.length:Int)<=(m:Int))=false:=decide_eq_false (by omega);have dl3:decide (kids.length<=m)=false:=decide_eq_false (by omega);have d0:=hx.cell e0;have d1:=hx.cell e1;have d2:=hx.cell e2;have yg:w.heap.size < wr.heap.size:=by omega
      have HBD:=hdq (fun q:Nat=>(show(wr.drewN q).heap[w.heap.size]? =some (.cells #[.int .i64 k',.int .i64 n',.slice (some ⟨b,o,none⟩) kids.length c'] 25 (0,0)) from hb));have HBR:=hdq (fun q:Nat=>(show(wr.drewN q).heap[w.heap.size+1]? =some (.cells #[.int .i64 0,.int .i64 0,.slice none 0 0] 25 (0,0)) from F2));clear E7 HK j5 S7 e0 e1 e2;go_wp2_with fail
      go_quiet (fail)
      go_wp2_with fail
      first|(go_region_law (fail)) |fail
      all_goals(
       go_wp2_with fail
       go_roundw
       case rel=> exact⟨j+1,k2,n2,l8,A2,c2,d' - 1,by omega,by go_num,Em,lw,by omega,Z8,U1,hK2,j11 (j11 (j11 (HBD.out _) 0 _) 1 _) 2 _,q13 (q13 (q13 (HBR.out _) (by simp) _) (by simp) _) (by simp) _,(((hx.drewN _).setCell (by simp) _).setCell (by simp) _).setCell (by simp) _⟩
       case measure=> simp[intOf];omega)
    · rw[if_neg S7] at N2
      by_cases P3:i < 0
      · have dl1:decide (i < 0)=true:=decide_eq_true P3
        clear S7;go_wp2_with fail
        go_quiet (fail)
        go_wp2_with fail;refine bodyPost_ret (v:= .tuple #[.agg #[.int .i64 0,.int .i64 0,.slice none 0 0],.bool false]) (by simp[results,Tryz.results112,go_sem,y0,y1,y2]) rfl ⟨_,by rw[N2.out];rfl, ?_, ?_⟩
        · rw[N2.out];exact Lies.leaf _ _ _
        · exact(((hx.drewN _).setCell (by simp) _).setCell (by simp) _).setCell (by simp) _
      · have dl1:decide (i < 0)=false:=decide_eq_false P3
        have dl2:decide ((kids.length:Int)<=i)=true:=decide_eq_true (by omega);have Cr:(kids.length:Int)<=i:=by omega
        clear S7;go_wp2_with fail
        go_quiet (fail)
        go_wp2_with fail;refine bodyPost_ret (v:= .tuple #[.agg #[.int .i64 0,.int .i64 0,.slice none 0 0],.bool false]) (by simp[results,Tryz.results112,go_sem,y0,y1,y2]) rfl ⟨_,by rw[N2.out];rfl, ?_, ?_⟩
        · rw[N2.out];exact Lies.leaf _ _ _
        · exact(((hx.drewN _).setCell (by simp) _).setCell (by simp) _).setCell (by simp) _
  · have mq:path.drop j= []:=List.drop_of_length_le (by omega)
    have N2:=hdq (show atT (.mk k n ks) path=some (.mk k' n' kids) by rw[HA.out,mq];rfl);obtain⟨z0,z1,z2,f0,f1,f2⟩:=own3 hb;obtain⟨y0,y1,y2,g0,g1,g2⟩:=own3 F2;have yg:w.heap.size < wr.heap.size:=by omega
    clear HA mq;go_wp2_with fail;refine bodyPost_ret (v:= .tuple #[.agg #[.int .i64 k',.int .i64 n',.slice A' kids.length c'],.bool true]) (by simp[results,Tryz.results112,go_sem,y0,y1,y2]) rfl ⟨_,by rw[N2.out];rfl, ?_, ?_⟩
    · rw[N2.out]
      exact Lies.mk K8 L6 (hK.ext (((hx.setCell (by simp) _).setCell (by simp) _).setCell (by simp) _))
    · exact((hx.setCell (by simp) _).setCell (by simp) _).setCell (by simp) _
theorem y109(t:Tr)(path:List Int)(w:World)(v:Value)(j7:Lies w t v)(A:Option Addr)(cap:Nat)(hl:path.length<=cap)(hc:cap<=maxLen)(hP:Nums w A path):Calls Tryz.prog 53 #[v,.slice A path.length cap] w fun e w'=> ∃u,e= .returned (.tuple #[u,.bool (atV t path).2])/\Lies w' (atV t path).1 u/\Ext w w':=by
 have HV:=hdq (fun W (hW:Ext w W)=> q28 t W v (j7.ext hW));have HX:=hdq (fun(h:valid sigT t=true) W (hW:Ext w W)=> j222 t 30 (q14 h).2 (by decide) path W v (j7.ext hW) A cap hl hc (hP.ext hW));have I1:valid sigT t=true-> ∀u,atT t path=some u->cnt u<=400:=fun h u hu=> Nat.le_trans (y148 path t u hu) (q14 h).1
 have Ef:atV t path=if valid sigT t=true then((atT t path).getD q16,(atT t path).isSome) else(q16,false):=rfl
 generalize atT t path=q at HX I1 Ef;obtain⟨z,hz⟩: ∃z,valid sigT t=z:=⟨_,rfl⟩;rw[hz] at HV Ef HX I1;clear hz;obtain⟨k,n,ks⟩:=t;obtain⟨At,ct,rfl,-,-,-⟩:=Lies.mk_iff.1 j7;have hx0:=((xr w).alloc (.cells #[.int .i64 k,.int .i64 n,.slice At ks.length ct] 25)).alloc (.cells #[.int .i64 0,.int .i64 0,.slice none 0 0] 25);cases z with
 |false=>
  rw[if_neg (by decide)] at Ef;have E2:=hdq Ef;clear Ef HX I1;go_enter Tryz.func53,Tryz.ntmps53;go_wp2_with fail;refine(HV.out _ hx0).mono ?_;rintro e w1 ⟨rfl,h1⟩;obtain⟨-,hb2,hs2⟩:=blk2 h1;obtain⟨s0,s1,s2,f0,f1,f2⟩:=own3 hb2;clear hb2;go_wp2_with fail;rw[E2.out];refine bodyPost_ret (v:= .tuple #[.agg #[.int .i64 0,.int .i64 0,.slice none 0 0],.bool false]) (by simp[results,Tryz.results53,go_sem,s0,s1,s2]) rfl ⟨_,rfl,Lies.leaf _ _ _, ?_⟩;exact((((h1.pre.pre).setCell (by simp) _).setCell (by simp) _).setCell (by simp) _)
 |true=>
  rw[if_pos rfl] at Ef;have uf:=hdq (HX.out rfl);have ud:=hdq (I1 rfl);have E2:=hdq Ef;clear Ef HX I1;cases q with
  |none=>
   go_enter Tryz.func53,Tryz.ntmps53;go_wp2_with fail;refine(HV.out _ hx0).mono ?_;rintro e w1 ⟨rfl,h1⟩;obtain⟨hb1,hb2,hs2⟩:=blk2 h1;obtain⟨z0,z1,z2,-,-,-⟩:=own3 hb1;go_wp2_with fail;refine(uf.out _ (hx0.trans h1)).mono ?_;rintro e w2 ⟨x,rfl,hL2,h2⟩;obtain⟨x1,x2,x3,x4,x5,rfl⟩:=InT.three (t:=q16) hL2;have hx3:=(xr w2).alloc (.cells #[.int .i64 x1,.int .i64 x2,.slice x3 x4 x5] 25);obtain⟨s0,s1,s2,f0,f1,f2⟩:=own3 ((h2.trans hx3).blk hb2);have Bc:=(hx0.trans h1).trans h2;clear z0 z1 z2 hb1 hb2 hs2 hx3;go_wp2_with fail;rw[E2.out];refine bodyPost_ret (v:= .tuple #[.agg #[.int .i64 0,.int .i64 0,.slice none 0 0],.bool false]) (by simp[results,Tryz.results53,go_sem,s0,s1,s2]) rfl ⟨_,rfl,Lies.leaf _ _ _, ?_⟩;exact((((Bc.alloc _).setCell (by simp) _).setCell (by simp) _).setCell (by simp) _)
  |some u=>
   have Ex:=ud.out u rfl;go_enter Tryz.func53,Tryz.ntmps53;go_wp2_with fail;refine(HV.out _ hx0).mono ?_;rintro e w1 ⟨rfl,h1⟩;obtain⟨hb1,hb2,hs2⟩:=blk2 h1;obtain⟨z0,z1,z2,-,-,-⟩:=own3 hb1;go_wp2_with fail;refine(uf.out _ (hx0.trans h1)).mono ?_;rintro e w2 ⟨x,rfl,hL2,h2⟩;simp only[Option.getD_some] at hL2;obtain⟨x1,x2,x3,x4,x5,rfl⟩:=hL2.three;have hx3:=(xr w2).alloc (.cells #[.int .i64 x1,.int .i64 x2,.slice x3 x4 x5] 25);have hs3:w.heap.size+1 < w2.heap.size:=j10 (h2.blk hb2);clear z0 z1 z2 hb1;go_wp2_with fail;refine(j29 u _ _ (hL2.ext hx3) (by omega)).mono ?_;rintro e w4 ⟨y,rfl,Fj,h4⟩;obtain⟨y1,y2,y3,y4,y5,rfl⟩:=Fj.three;have hb4:=(h2.trans (hx3.trans h4)).blk hb2;obtain⟨s0,s1,s2,f0,f1,f2⟩:=own3 hb4;have Bc:=((hx0.trans h1).trans h2).trans (hx3.trans h4);clear hb2 hb4;go_wp2_with fail;rw[E2.out];refine bodyPost_ret (v:= .tuple #[.agg #[.int .i64 y1,.int .i64 y2,.slice y3 y4 y5],.bool true]) (by simp[results,Tryz.results53,go_sem,s0,s1,s2]) rfl ⟨_,rfl, ?_, ?_⟩
   · exact Made.lies (Fj.after ((((y25.refl _ _).setCell (by simp;omega) _).setCell (by simp;omega) _).setCell (by simp;omega) _))
   · exact(((Bc.setCell (by simp) _).setCell (by simp) _).setCell (by simp) _)
end Go.Proofs.YtbnkbepgmenblaaGreat
