/-
  Lemmas towards the law, 11: Parse3, Chg, Subst2, Keep.
-/
import Derived.Test.YtbnkbepgmenblaaGreatTAJ
set_option linter.unusedVariables false
set_option maxHeartbeats 20000000
set_option maxRecDepth 100000
namespace Go.Proofs.YtbnkbepgmenblaaGreat
open Go.RowKit
def SerQ(B:Nat)(w:World)(size:Nat)(o:Option (List Tr×Nat))(e:Ending)(w':World):Prop:=
 ∃(ts:List Tr) (A:Option Addr) (cap:Nat) (nx:Int),e= .returned (.tuple #[.slice A ts.length cap,.int .i64 nx])/\ts.length<=cap/\cap<=maxLen/\j14 B w' A ts/\Ext w w'/\(∀x,o=some x->ts=x.1/\nx=x.2/\x.2<=size)/\(o=none->nx= -1)
theorem q200:(Tryz.prog.info? 25).map (fun i=>(i.zero,i.size,i.bytes))=some (some (.agg #[.int .i64 0,.int .i64 0,.slice none 0 0]),3,40):=by kernel_rfl
theorem j218{p:Nat->Option (Tr×Nat)}{l:List UInt8}{last:UInt8}{m a b:Nat}{t:Tr}(h:p a=some (t,b)):ser p l last (m+1) a=if l[b]? =some (if m=0 then last else 44) then(ser p l last m (b+1)).map (fun x=>(t::x.1,x.2)) else none:=by
 conv=> lhs;unfold ser
 rw[h]
theorem y211{p:Nat->Option (Tr×Nat)}{l:List UInt8}{last:UInt8}{m a:Nat}(h:p a=none):ser p l last (m+1) a=none:=by
 conv=> lhs;unfold ser
 rw[h]
theorem y165(d:Nat)(ih:j30 d)(s:ByteArray)(a many:Nat)(last:UInt8)(w:World)(hs:s.size<=1000000000)(ha:a<=s.size+2)(hm:many<=4)(Uf:1<=many):
 Calls Tryz.prog 211 #[.string s,.int .i64 a,.int .i64 d,.int .i64 many,.int .u8 (last.toNat:Int)] w (SerQ w.heap.size w s.size (ser (prs d s.data.toList) s.data.toList last many a)):=by
 have HI:=hdq (fun a W (ha:a<=s.size+2)=> ih s a W hs ha);obtain⟨F,hF⟩: ∃F,F=prs d s.data.toList:=⟨_,rfl⟩;rw[<-hF] at HI⊢;obtain⟨R,hR⟩: ∃R,R=ser F s.data.toList last many a:=⟨_,rfl⟩;rw[<-hR];have HR:=hdq hR;obtain⟨i0,hi,hz0,hz1,hz2⟩:=info_parts q200;obtain⟨q,hq⟩: ∃q,last.toNat=q:=⟨_,rfl⟩;rw[hq];have HLQ:=hdq hq;clear hR ih hF hq;go_enter Tryz.func211,Tryz.ntmps211;go_wp2_with fail;have hx0:=(xr w).alloc (.cells #[] 25);have hb0:=heap_alloc_new w (.cells #[] 25);have hs0:w.heap.size <(w.alloc (.cells #[] 25)).heap.size:=by simp
 generalize World.alloc w _=w1 at hx0 hb0 hs0
 go_loopw [1,12,13] (fun at_ o i wr=> ∃(j a':Nat) (ts:List Tr),j<=many/\at_= .int .i64 a'/\i= .int .i64 j/\a'<=s.size+2/\q19 (· < w.heap.size) w wr 25 o ts/\ts.length=j/\Ext w wr/\w.heap.size < wr.heap.size/\R=(ser F s.data.toList last (many - j) a').map (fun x=>(ts++x.1,x.2))/\(j=many->a'<=s.size)) (fun _ _ i _=> many -(intOf i).toNat)
 case atStart=> exact⟨0,a, [],Nat.zero_le _,rfl,rfl,ha,q19.lit hb0 (Nat.le_refl _),rfl,hx0,hs0,by rw[HR.out];simp,by omega⟩
 case round=>
  obtain⟨j,a',ts,hj,rfl,rfl,ha',hG,bi,hx,hsz,dv,hend⟩:=hrel;have HE:=hdq dv;have oh:=hdq bi;have Cl:ts.length<=4:=by omega
  clear bi;obtain⟨Bo,co,rfl,P9,hl2,Lj,-⟩:=hG.lies (fun b hb=> hb);clear dv;by_cases hlt:j < many
  · have Mx:(j:Int) <(many:Int):=by omega
    have HND:=hdq hend;clear hend;go_wp2_with fail;refine(HI.out a' wr ha').mono ?_;rintro e w2 ⟨t,u,nx,rfl,hF,e2,q1,q2⟩;obtain⟨k0,n0,A0,l0,c0,rfl⟩:=hF.three;have hs2:=e2.size;have F6:=e2.trans ((xr w2).alloc (.cells #[.int .i64 k0,.int .i64 n0,.slice A0 l0 c0] 25));cases J5:F a' with
    |none=>
     obtain rfl:=q2 J5;have H7:R=none:=by
      rw[HE.out,show many - j=(many - j - 1)+1 by omega,y211 J5]
      rfl
     have Nr:=hdq H7;clear q1 q2 H7 J5;go_wp2_with fail;go_ret2;exact⟨[],none,0,-1,rfl,Nat.le_refl _,Nat.zero_le _,.inl rfl,hx.trans F6,(fun x hx=> by rw[Nr.out] at hx;cases hx),fun _=> rfl⟩
    |some y=>
     obtain⟨t',b⟩:=y;obtain⟨h1,h2,h3⟩:=q1 _ J5;simp only at h1 h2 h3;subst h1 h2;have hst:=HE.out;rw[show many - j=(many -(j+1))+1 by omega,j218 J5] at hst;clear q1 q2 J5;have t0:decide ((b:Int) < 0)=false:=decide_eq_false (by omega);by_cases hlb:b < s.size
     · obtain⟨c,hc⟩: ∃c,s[b]=c:=⟨_,rfl⟩
       rw[j52 hlb hc] at hst;have Ub:(b:Int) <(s.size:Int):=by omega
       have t1:decide ((s.size:Int)<=(b:Int))=false:=decide_eq_false (by omega);obtain⟨p,hp⟩: ∃p,c.toNat=p:=⟨_,rfl⟩;obtain⟨want,hw⟩: ∃want:UInt8,want=if many -(j+1)=0 then last else 44:=⟨_,rfl⟩
       rw[<-hw] at hst;by_cases hcw:c=want
       · rw[if_pos (by rw[hcw])] at hst
         have HST:=hdq hst;have N4:=hG.ext F6;have Po: ∀o',q19 (· < w.heap.size) w (w2.alloc (.cells #[.int .i64 k0,.int .i64 n0,.slice A0 l0 c0] 25)) 25 o' ts->True:=fun _ _=> trivial
         have hown: ∀g,(Value.slice Bo ts.length co).ownBlock=some g->g < wr.heap.size:=by
          obtain⟨xs,g1,-⟩:=hG;exact fun g hg=>(g1.lt g hg).2
         have aj:=hdq hown;have Pf:=(hF.ext ((xr w2).alloc (.cells #[.int .i64 k0,.int .i64 n0,.slice A0 l0 c0] 25))).ext ((xr _).alloc (.cells #[.int .i64 k0,.int .i64 n0,.slice A0 l0 c0] 25));have hGx:=N4.ext ((xr _).alloc (.cells #[.int .i64 k0,.int .i64 n0,.slice A0 l0 c0] 25));have R8:=heap_alloc_new (w2.alloc (.cells #[.int .i64 k0,.int .i64 n0,.slice A0 l0 c0] 25)) (.cells #[.int .i64 k0,.int .i64 n0,.slice A0 l0 c0] 25);simp only[World.size_alloc] at R8;have hT:InT ((w2.alloc (.cells #[.int .i64 k0,.int .i64 n0,.slice A0 l0 c0] 25)).alloc (.cells #[.int .i64 k0,.int .i64 n0,.slice A0 l0 c0] 25)) (fun b=> b <((w2.alloc (.cells #[.int .i64 k0,.int .i64 n0,.slice A0 l0 c0] 25)).alloc (.cells #[.int .i64 k0,.int .i64 n0,.slice A0 l0 c0] 25)).heap.size/\(Value.slice Bo ts.length co).ownBlock≠some b/\ ¬(b < w.heap.size)) t (.agg #[.int .i64 k0,.int .i64 n0,.slice A0 l0 c0]):=Pf.mono (fun b hb=>⟨hb.2,fun h=> by have:=aj.out b h;omega,by omega⟩) (fun _ _=> rfl);have HT:=hdq hT;have HGX:=hdq hGx;have HW:=hdq hw;clear hst hw hG N4 hT Pf hF hown hGx Po Lj;have Ii:(j+1 < many/\p=44/\((j:Int)+1==(many:Int))=false)\/(many<=j+1/\p=q/\((j:Int)+1==(many:Int))=true):=by
          rcases Nat.lt_or_ge (j+1) many with g|g
          · refine .inl ⟨g, ?_,by rw[beq_eq_false_iff_ne];omega⟩
            have:=hcw;rw[HW.out,if_neg (by omega)] at this;rw[<-hp,this];rfl
          · refine .inr ⟨g, ?_,by rw[beq_iff_eq];omega⟩
            have:=hcw;rw[HW.out,if_pos (by omega)] at this;rw[<-hp,this,HLQ.out]
         clear hcw;rcases Ii with⟨g1,rfl,g3⟩ |⟨g1,rfl,g3⟩
         all_goals(
          have gz:(j:Int)+1 <(many:Int)\/(many:Int)<=(j:Int)+1:=by omega
          have gd:decide ((j:Int)+1 <(many:Int))=decide (j+1 < many):=decide_eq_decide.2 (by omega);clear gz)
         all_goals(
          have h44:((44:Int) !=44)=false:=by decide
          go_wp2_with (at_builtin;refine j18 _ rfl (.tmp 62) (.tmp 64) _ (by rfl) 25 i0 _ Tryz.underlying23 hi hz0 hz1 hz2 rfl (by rfl) (X:=(· < w.heap.size)) (W:=w) (tr:=t) HGX.out (by simp;omega) HT.out (by rfl) R8 (by omega) ?_ (fun b hb=> hb))
          intro v' w5 G7 E6;obtain⟨B5,c5,rfl,r1,r2,-,-⟩:=G7.lies (fun b hb=> hb);have Z5:Ext w w5:=Below.trans (hx.trans (F6.trans ((xr _).alloc (.cells #[.int .i64 k0,.int .i64 n0,.slice A0 l0 c0] 25)))) E6;have hs5:=E6.size;have Nh:=hdq G7;have Yt:w.heap.size < w5.heap.size:=by simp at hs5;omega
          clear G7 E6 hs5 R8;go_wp2_with fail
          go_roundw
          case rel=> exact⟨j+1,b+1,ts++ [t],by omega,by go_num,by go_num,by omega,Nh.out,by rw[List.length_append,oh.out];rfl,Z5,Yt,by rw[HST.out,Option.map_map];congr 1;funext x;simp,by omega⟩
          case measure=> simp[intOf];omega)
       · rw[if_neg (by intro h;cases h;exact hcw rfl)] at hst
         have Nr:=hdq (show R=none from by rw[hst];rfl);have Ii:(j+1 < many/\((p:Int) !=44)=true)\/(many<=j+1/\((p:Int) !=(q:Int))=true/\((j:Int)+1==(many:Int))=true):=by
          rcases Nat.lt_or_ge (j+1) many with g|g
          · refine .inl ⟨g, ?_⟩
            rw[bne_iff_ne];intro h;rw[hw,if_neg (by omega)] at hcw;exact hcw (UInt8.toNat_inj.1 (by rw[hp];simp;omega))
          · refine .inr ⟨g, ?_,by rw[beq_iff_eq];omega⟩
            rw[bne_iff_ne];intro h;rw[hw,if_pos (by omega)] at hcw;exact hcw (UInt8.toNat_inj.1 (by rw[hp,HLQ.out];omega))
         clear hst hw hcw hG Lj;rcases Ii with⟨g1,g2⟩ |⟨g1,g2,g3⟩
         all_goals(
          go_wp2_with fail;go_ret2;exact⟨[],none,0,-1,rfl,Nat.le_refl _,Nat.zero_le _,.inl rfl,hx.trans F6,(fun x hx=> by rw[Nr.out] at hx;cases hx),fun _=> rfl⟩)
     · rw[q54 s (by omega),if_neg (by simp)] at hst
       have Nr:=hdq (show R=none from by rw[hst];rfl);have t1:decide ((s.size:Int)<=(b:Int))=true:=decide_eq_true (by omega);clear hst hG Lj;go_wp2_with fail;go_ret2;exact⟨[],none,0,-1,rfl,Nat.le_refl _,Nat.zero_le _,.inl rfl,hx.trans F6,(fun x hx=> by rw[Nr.out] at hx;cases hx),fun _=> rfl⟩
  · have Ni:j=many:=by omega
    have J1:R=some (ts,a'):=by
     rw[HE.out,Ni,Nat.sub_self];simp[ser]
    have HRs:=hdq J1;have hK2:j14 w.heap.size wr Bo ts:=Lj.mono (fun b hb=>⟨by omega,hb.1⟩) (fun _ _=> rfl);have M5:=hend Ni;clear J1 hend Lj hG;go_wp2_with fail;go_ret2;refine⟨ts,Bo,co,(a':Int), ?_,P9,hl2,hK2,hx, ?_, ?_⟩
    · rfl
    · intro x hx
      rw[HRs.out] at hx;cases hx
      exact⟨rfl,rfl,M5⟩
    · intro hx
      rw[HRs.out] at hx;cases hx
end Go.Proofs.YtbnkbepgmenblaaGreat
namespace Go.Proofs.YtbnkbepgmenblaaGreat
open Go.RowKit
attribute [local go_sem ↓] Go.wp_at_zero Go.wp_at_succ
attribute [local go_sem] ldO
theorem j80(g:Int->Int->Tr): ∀(k:Int) (ts:List Tr) (i:Nat) (b:Int),(y92 g k ts i b).length=ts.length
 |_, [],_,_=> rfl
 |k,t::ts,i,b=> by simp[y92,j80 g k ts (i+1) b]
theorem q106(g:Int->Int->Tr): ∀{k:Int} {ts:List Tr} {i j:Nat} {b:Int} (h:j < ts.length),(y92 g k ts i b)[j]'(by rw[j80];exact h)=chgT g ts[j] (b+und k (i+j))
 |k,t::ts,i,0,b,h=> by simp[y92]
 |k,t::ts,i,j+1,b,h=> by
  simp only[y92,List.getElem_cons_succ];rw[q106 g (j:=j) (by simpa using h),show i+1+j=i+(j+1) by omega]
def Chg_sh(a:World)(p1 p2 p3:Nat)(L:List Nat)(Inv:World->Bool->Prop)(g:Int->Int->Tr)(h:Int->Int->Bool):Prop:=
 ∀(w:World) (s:Bool) (n b:Int),Ext a w->Inv w s->0<=n->n<=20->0<=b->b<=1000->Calls Tryz.prog 171 #[.int .i64 n,.int .i64 b,.pointer (some ⟨p1,0,none⟩),.pointer (some ⟨p2,0,none⟩),.pointer (some ⟨p3,0,none⟩)] w fun e w'=> ∃u,e= .returned u/\Made w w' 25 (g n b) u/\Only L w w'/\Inv w' (s && h n b)
def ChgC_sh(t:Tr):Prop:= ∀(a w:World) (v:Value) (b d:Int) (p1 p2 p3:Nat) (L:List Nat) (B:Nat) (Inv:World->Bool->Prop) (g:Int->Int->Tr) (h:Int->Int->Bool) (s:Bool),
 shape sigT t d=true->Lies a t v->Ext a w->(∀x,x∈L->a.heap.size<=x/\x < w.heap.size)->0<=b->b+cnt t<=1000->
 Chg_sh a p1 p2 p3 L Inv g h->(∀w1 w2 s,Inv w1 s->Ext w1 w2->Inv w2 s)->B<=w.heap.size->(∀w1 w2 s,Inv w1 s->(∀x,x < B->w2.heap[x]? =w1.heap[x]?)->w1.heap.size<=w2.heap.size->Inv w2 s)->Inv w s->
 Calls Tryz.prog 170 #[v,.int .i64 b,.func (.func 171) #[] #[.pointer (some ⟨p1,0,none⟩),.pointer (some ⟨p2,0,none⟩),.pointer (some ⟨p3,0,none⟩)]] w fun e w'=> ∃u,e= .returned u/\Made w w' 25 (chgT g t b) u/\Only L w w'/\Inv w' (s && allT h t b)
theorem j109: ∀t:Tr,ChgC_sh t:=Tr.ind fun k n ks hk=> by
 intro a w v b d p1 p2 p3 L B Inv g h s hsh j7 ha hL hb0 hb1 hT hst hB qf hI;obtain⟨A,cap,rfl,hl,hc,hK⟩:=Lies.mk_iff.1 j7;obtain⟨-,ah,az,hsk⟩:=j12 hsh;obtain⟨i0,hi,hz0,hz1,hz2⟩:=info_parts y215;have hlc:=y19 ks;have hcc:=hc;unfold maxLen at hcc;simp only[cnt] at hb1;have O6:=q102 k;obtain⟨b1,d1⟩: ∃b1,(k==1)=b1:=⟨_,rfl⟩;have yg: ∀x,x∈L->x < w.heap.size:=fun x hx=>(hL x hx).2
 have C6:Ext w ((w.alloc (.cells #[.int .i64 k,.int .i64 n,.slice A ks.length cap] 25)).alloc (.cells #[.int .i64 0,.int .i64 0,.slice none 0 0] 25)):=((xr w).alloc _).alloc _;obtain⟨T7,F2,hs1⟩:=blk2 (xr ((w.alloc (.cells #[.int .i64 k,.int .i64 n,.slice A ks.length cap] 25)).alloc (.cells #[.int .i64 0,.int .i64 0,.slice none 0 0] 25)));have Hn:((w.alloc (.cells #[.int .i64 k,.int .i64 n,.slice A ks.length cap] 25)).alloc (.cells #[.int .i64 0,.int .i64 0,.slice none 0 0] 25)).heap.size=w.heap.size+2:=by simp
 cases b1 with
 |true=>
  obtain rfl:k=1:=by simpa using d1
  have e1:chgT g (.mk 1 n ks) b=g n b:=by unfold chgT;rw[if_pos rfl]
  have e2:allT h (.mk 1 n ks) b=h n b:=by unfold allT;rw[if_pos rfl]
  rw[e1,e2];have oh:=hdq (hT _ s n b (ha.trans C6) (hst _ _ _ hI C6) ah (by omega) hb0 (by omega));clear e1 e2 hT hst hI;go_enter Tryz.func170,Tryz.ntmps170;go_wp2_with fail;refine oh.out.mono ?_;rintro e w1 ⟨u,rfl,hM,ho,hI⟩;obtain⟨a1,a2,a3,a4,a5,rfl⟩:=hM.three';have hb2:=(ho.block _ (by omega) (fun hm=> by have:=yg _ hm;omega)).trans F2;obtain⟨s0,s1,s2,f0,f1,f2⟩:=own3 hb2;have hso:=ho.size;clear oh T7 F2 hb2;go_wp2_with fail;refine bodyPost_ret (v:= .agg #[.int .i64 a1,.int .i64 a2,.slice a3 a4 a5]) (by simp[results,Tryz.results170,go_sem,s0,s1,s2]) rfl ⟨_,rfl, ?_, ?_, ?_⟩
  · exact Made.since (hM.after ((((y25.refl _ _).setCell (by simp) _).setCell (by simp) _).setCell (by simp) _)) (by simp;omega)
  · have h0:=(oE (L:=L) C6).trans ho
    refine⟨h0.os,h0.tape,h0.output,by simpa using h0.size,fun x hx hn=> ?_⟩;rw[Below.heap_setCell _ _ _ _ (by simp;omega),Below.heap_setCell _ _ _ _ (by simp;omega),Below.heap_setCell _ _ _ _ (by simp;omega)];exact h0.block x hx hn
  · refine qf _ _ _ hI (fun x hx=> ?_) (by simp)
    rw[Below.heap_setCell _ _ _ _ (by simp;omega),Below.heap_setCell _ _ _ _ (by simp;omega),Below.heap_setCell _ _ _ _ (by simp;omega)]
 |false=>
  have Bp:k≠1:=by simpa using d1
  obtain⟨rs,il⟩: ∃rs,rs=y92 g k ks 0 b:=⟨_,rfl⟩;have hres:chgT g (.mk k n ks) b= .mk k n rs:=by
   rw[il]
   conv=> lhs;unfold chgT
   rw[if_neg Bp]
  have hall:allT h (.mk k n ks) b=j42 h k ks 0 b:=by
   conv=> lhs;unfold allT
   rw[if_neg Bp]
  have Dn:rs.length=ks.length:=by rw[il,j80]
  have bk: ∀j (hj:j < ks.length),rs[j]'(by omega)=chgT g ks[j] (b+und k j):=fun j hj=> by
   subst il;rw[q106 g hj,Nat.zero_add]
  rw[hres,hall];have W4:=hdq bk;have HST:=hdq hst;have jl:=hdq qf;have V1:=hdq hT;have ov:=hdq yg;have Hl:=hdq hL;have HSK:=hdq hsk;have Py:=hst _ _ _ hI C6;clear hres il bk hall hst qf hT yg hL hsk;go_enter Tryz.func170,Tryz.ntmps170;go_wp2_with fail;generalize i7:(w.alloc (.cells #[.int .i64 k,.int .i64 n,.slice A ks.length cap] 25)).alloc (.cells #[.int .i64 0,.int .i64 0,.slice none 0 0] 25)=w1 at*;clear i7;obtain⟨W,hW⟩: ∃W,W=w1.alloc (.cells #[.int .i64 k,.int .i64 n,.slice none 0 0] 25):=⟨_,rfl⟩;have Eu:W.heap.size=w.heap.size+3:=by rw[hW];simp;omega
  have I3:Ext w1 W:=hW▸(xr w1).alloc _;have ot:W.heap[w.heap.size+1+1]? =some (.cells #[.int .i64 k,.int .i64 n,.slice none 0 0] 25 (0,0)):=by
   have:=heap_alloc_new w1 (.cells #[.int .i64 k,.int .i64 n,.slice none 0 0] 25);rw[Hn] at this;rw[hW];exact this
  rw[<-hW];have Yu:=HST.out _ _ _ Py I3;clear hW Py hI
  go_loopw [26] (fun i wr=> ∃(j:Nat) (v:Value) (s2:Bool),j<=ks.length/\i= .int .i64 j/\wr.heap[w.heap.size+1+1]? =some (.cells #[.int .i64 k,.int .i64 n,v] 25 (0,0))/\Grow W wr 25 v (rs.take j)/\Only L w1 wr/\W.heap.size<=wr.heap.size/\Inv wr s2/\(s && j42 h k ks 0 b)=(s2 && j42 h k (ks.drop j) j b)) (fun i _=> ks.length -(intOf i).toNat)
  case atStart=> exact⟨0,_,s,Nat.zero_le _,rfl,ot,Grow.nil _ _ _,oE I3,Nat.le_refl _,Yu,rfl⟩
  case round=>
   obtain⟨j,v,s2,hj,rfl,J9,hG,ho,hle,Gy,dv⟩:=hrel;have HE:=hdq dv;have tu:Ext a wr:=ho.ext (ha.trans C6) (fun x hx=>(Hl.out x hx).1);have nv:=(ho.block _ (by omega) (fun hm=> by have:=ov.out _ hm;omega)).trans T7;obtain⟨x0,x1,x2,-,-,-⟩:=own3 nv;clear dv;by_cases hlt:j < ks.length
   · obtain⟨b',o,k',n',A',cap',kids,rfl,HK,c0,c1,c2,K8,L6,hK',D6,j5⟩:=hK.get tu hlt
     have zu:Lies a (.mk k' n' kids) (.agg #[.int .i64 k',.int .i64 n',.slice A' kids.length cap']):=by
      obtain⟨b2,o2,k2,n2,A2,M3,l8,h1,h2,q0,q1,q2,h6,h7,h8,h9,h10⟩:=hK.get (xr a) hlt;obtain⟨rfl,rfl⟩:b'=b2/\o=o2:=by cases h1;exact⟨rfl,rfl⟩
      have e3:=(tu.cell q0).symm.trans c0;have e4:=(tu.cell q1).symm.trans c1;have e5:=(tu.cell q2).symm.trans c2;have e6:=h2.out.symm.trans HK.out;cases e3;cases e4;cases e6;cases e5
      exact h9
     have L8:=j84 (l:=rs) (j:=j) (by omega) (W4.out j hlt);rw[HK.out] at L8;have pn:j42 h k (ks.drop j) j b=(allT h (.mk k' n' kids) (b+und k j)&& j42 h k (ks.drop (j+1)) (j+1) b):=by
      rw[List.drop_eq_getElem_cons hlt,HK.out]
      conv=> lhs;unfold j42
     have Gf:=y86 k j;obtain⟨uu,hu⟩: ∃u,u=und k j:=⟨_,rfl⟩;have HU:=hdq (fun W=> j82 k j W);rw[<-hu] at HU Gf L8 pn;have qw:=hdq L8;have Gq:=hdq pn;have hcm:=y15 j5;have lf:=HSK.out _ j5;have my:(j:Int) <(ks.length:Int):=by omega
     have pu:=hdq (IntWalk.i64_in (b+uu) ⟨by omega,by omega⟩);have HR:=hdq (hk _ j5 a);clear hu L8 pn;have hlen:(rs.take j).length < 1099511627776:=by rw[List.length_take];omega
     have Y2:(rs.take j).length=j:=by rw[List.length_take];omega
     have HL:=hdq Y2;go_wp2_with fail;have hx:=(xr wr).alloc (.cells #[.int .i64 k',.int .i64 n',.slice A' kids.length cap'] 25);have R6:=heap_alloc_new wr (.cells #[.int .i64 k',.int .i64 n',.slice A' kids.length cap'] 25);obtain⟨wd,hwd⟩: ∃wd,wd=wr.alloc (.cells #[.int .i64 k',.int .i64 n',.slice A' kids.length cap'] 25):=⟨_,rfl⟩;rw[<-hwd] at hx R6⊢;clear hwd;have hsr:W.heap.size<=wr.heap.size:=hle;have Md:wr.heap.size < wd.heap.size:=j10 R6;have Rz:=hdq hG;have Aj:=hx.blk J9;have ze:=hx.blk nv;have hv:=q10 Aj 2;have yn:=HST.out _ _ _ Gy hx;have Rt:=HST.out _ _ _ yn (xr wd).drew;have ny:=hx.trans (xr wd).drew;have HF:=hdq (HR.out wd.drew _ (b+uu) (d - 1) p1 p2 p3 L B Inv g h s2 lf zu (tu.trans ny) (fun x hx=>⟨(Hl.out x hx).1,by have:=ov.out x hx;show x < wd.heap.size;omega⟩) (by omega) (by omega) V1.out HST.out (by show B<=wd.heap.size;omega) jl.out Rt);have HS:=hdq (show∀w':World,w'.heap[w.heap.size]? =wd.heap[w.heap.size]? ->w'.heap[wr.heap.size]? =wd.heap[wr.heap.size]? ->w'.cell? ⟨w.heap.size,0,none⟩=some (.int .i64 k)/\w'.cell? ⟨wr.heap.size,0,none⟩=some (.int .i64 k')/\w'.cell? ⟨wr.heap.size,1,none⟩=some (.int .i64 n')/\w'.cell? ⟨wr.heap.size,2,none⟩=some (.slice A' kids.length cap') from fun w' h1 h2=> by
      have q1:=h1.trans ze;have q2:=h2.trans R6;exact⟨q10 q1 0,q10 q2 0,q10 q2 1,q10 q2 2⟩)
     have HV:=hdq (show∀w':World,w'.heap[w.heap.size+1+1]? =wd.heap[w.heap.size+1+1]? ->w'.heap[w.heap.size+1+1]? =some (.cells #[.int .i64 k,.int .i64 n,v] 25 (0,0)) from fun w' h1=> h1.trans Aj);have hoX:Only L w1 wd:=ho.trans (oE hx);clear Y2 J9 hG hle hcc x0 x1 x2 c0 c1 c2 nv R6 ze tu zu HR lf Gy yn Rt D6 hK';rw[show Op.load 23 (Operand.tmp 31)=ldO 23 31 from rfl]
     go_region_held_law (fun w'=> w'.cell? ⟨w.heap.size,0,none⟩=some (.int .i64 k)/\w'.cell? ⟨wr.heap.size,0,none⟩=some (.int .i64 k')/\w'.cell? ⟨wr.heap.size,1,none⟩=some (.int .i64 n')/\w'.cell? ⟨wr.heap.size,2,none⟩=some (.slice A' kids.length cap'))
      (first|exact HS.out _ ((Below.heap_setCell _ _ _ _ (by show w.heap.size≠w.heap.size+1+1;omega)).trans Sl) ((Below.heap_setCell _ _ _ _ (by show wr.heap.size≠w.heap.size+1+1;omega)).trans Tw) |exact HS.out _ Sl Tw|exact HS.out _ ((Below.heap_alloc _ _ _ (by omega)).trans Hr) ((Below.heap_alloc _ _ _ (by omega)).trans Iu) |exact HS.out _ Hr Iu|exact HS.out _ rfl rfl)
      (first|(go_simp;go_at_call 107;refine(HU.out _).mono ?_;rintro e wu ⟨rfl,rfl⟩) |(go_simp;go_at_call 170;(try rw[pu.out]);refine HF.out.mono ?_;rintro e w4 ⟨u,rfl,hM,N9,hI4⟩;obtain⟨a1,a2,a3,a4,a5,rfl⟩:=hM.three';have jq:wd.heap.size<=w4.heap.size:=N9.size;have Hr:w4.heap[w.heap.size]? =wd.heap[w.heap.size]? :=N9.block _ (by show w.heap.size < wd.heap.size;omega) (fun hm=> by have:=ov.out _ hm;omega);have Iu:w4.heap[wr.heap.size]? =wd.heap[wr.heap.size]? :=N9.block _ Md (fun hm=> by have:=ov.out _ hm;omega);have Qk:w4.heap[w.heap.size+1+1]? =wd.heap[w.heap.size+1+1]? :=N9.block _ (by show w.heap.size+1+1 < wd.heap.size;omega) (fun hm=> by have:=ov.out _ hm;omega);have hv4:=q10 (HV.out _ Qk) 2;have hs4b:=World.block_lt_of_cell? _ _ hv4) |(refine q53 _ (by rfl) (.tmp 32) (.tmp 42) _ (by rfl) 25 i0 _ Tryz.underlying23 hi hz0 hz1 hz2 rfl (by rfl) Rz.out (by omega) (by omega) (fun x h1 h2=>(N9.block x (by show x < wd.heap.size;omega) (fun hm=> by have:=ov.out _ hm;omega)).trans (hx.heap x h2)) (hM.since (by show wr.heap.size<=wd.heap.size;omega)) ((xr _).alloc _) (by rfl) (heap_alloc_new _ _) hlen ?_;intro v' w5 G7 E6 uw;obtain⟨B5,c5,rfl,q1,q2,-⟩:=G7.made;have Sl:w5.heap[w.heap.size]? =wd.heap[w.heap.size]? :=(E6.block _ (by omega)).trans Hr;have Tw:w5.heap[wr.heap.size]? =wd.heap[wr.heap.size]? :=(uw _ (by show wr.heap.size<=_;omega) (by omega)).trans Iu;have Ib:=HV.out _ ((E6.block _ (by omega)).trans Qk);have gi:=q10 Ib 2;have Er:=y13 Ib 2))
     all_goals(
      have ae:Only L w1 w5:=(hoX.trans ((oE (xr wd).drew).trans N9)).below E6 (by omega);have hs5:=E6.size;rw[List.length_append,List.length_singleton,HL.out,qw.out] at G7;have rq:=fun u=> G7.after ((y25.refl W.heap.size w5).setCell (p:=⟨w.heap.size+1+1,2,none⟩) (by show w.heap.size+1+1 < W.heap.size;omega) u)
      have Zc:=fun u=> jl.out w4 (w5.setCell ⟨w.heap.size+1+1,2,none⟩ u) _ hI4 (fun x hx=>(Below.heap_setCell _ _ _ _ (by show x≠w.heap.size+1+1;omega)).trans (E6.block x (by omega))) (by simp;omega)
      have Yi:=fun u=>(show Only L w1 (w5.setCell ⟨w.heap.size+1+1,2,none⟩ u) from⟨ae.os,ae.tape,ae.output,by simpa using ae.size,fun x hx hn=>(Below.heap_setCell _ _ _ _ (by show x≠w.heap.size+1+1;omega)).trans (ae.block x hx hn)⟩)
      clear hv4 hv hM N9;go_wp2_with fail
      go_roundw
      case rel=> exact⟨j+1,_,_,by omega,by go_num,j11 Ib 2 _,rq _,Yi _,by simp;omega,Zc _,by rw[HE.out,Gq.out,Bool.and_assoc]⟩
      case measure=> simp[intOf];omega)
   · obtain⟨B5,c5,rfl,q1,q2,ij⟩:=hG.made
     have Ig:rs.take j=rs:=List.take_of_length_le (by omega);obtain⟨r0,r1,r2,-,-,-⟩:=own3 J9;have Z6:=(ho.block _ hs1 (fun hm=> by have:=ov.out _ hm;omega)).trans F2;obtain⟨s0,s1,Yo,f0,f1,f2⟩:=own3 Z6;rw[Ig] at q1 r2 ij;rw[List.drop_of_length_le (by omega)] at HE;clear J9;go_wp2_with fail;refine bodyPost_ret (v:= .agg #[.int .i64 k,.int .i64 n,.slice B5 rs.length c5]) (by simp[results,Tryz.results170,go_sem,s0,s1,Yo,Dn]) rfl ⟨_,rfl, ?_, ?_, ?_⟩
     · exact Made.since (Made.after (Made.mk q1 q2 ij) ((((y25.refl _ _).setCell (by show w.heap.size+1 < _;omega) _).setCell (by show w.heap.size+1 < _;omega) _).setCell (by show w.heap.size+1 < _;omega) _)) (by omega)
     · have h0:=(oE (L:=L) C6).trans ho
       refine⟨h0.os,h0.tape,h0.output,by simpa using h0.size,fun x hx hn=> ?_⟩;rw[Below.heap_setCell _ _ _ _ (by show x≠w.heap.size+1;omega),Below.heap_setCell _ _ _ _ (by show x≠w.heap.size+1;omega),Below.heap_setCell _ _ _ _ (by show x≠w.heap.size+1;omega)];exact h0.block x hx hn
     · have hE:=HE.out
       simp only[j42,Bool.and_true] at hE;rw[hE];refine jl.out _ _ _ Gy (fun x hx=> ?_) (by simp);rw[Below.heap_setCell _ _ _ _ (by show x≠w.heap.size+1;omega),Below.heap_setCell _ _ _ _ (by show x≠w.heap.size+1;omega),Below.heap_setCell _ _ _ _ (by show x≠w.heap.size+1;omega)]
def Chg_sb(a:World)(p1 p2 p3:Nat)(L:List Nat)(Inv:World->Bool->Prop)(g:Int->Int->Tr)(h:Int->Int->Bool):Prop:=
 ∀(w:World) (s:Bool) (n b:Int),Ext a w->Inv w s->0<=n->n<=20->0<=b->b<=1000->Calls Tryz.prog 178 #[.int .i64 n,.int .i64 b,.pointer (some ⟨p1,0,none⟩),.pointer (some ⟨p2,0,none⟩),.pointer (some ⟨p3,0,none⟩)] w fun e w'=> ∃u,e= .returned u/\Made w w' 25 (g n b) u/\Only L w w'/\Inv w' (s && h n b)
def ChgC_sb(t:Tr):Prop:= ∀(a w:World) (v:Value) (b d:Int) (p1 p2 p3:Nat) (L:List Nat) (B:Nat) (Inv:World->Bool->Prop) (g:Int->Int->Tr) (h:Int->Int->Bool) (s:Bool),
 shape sigT t d=true->Lies a t v->Ext a w->(∀x,x∈L->a.heap.size<=x/\x < w.heap.size)->0<=b->b+cnt t<=1000->
 Chg_sb a p1 p2 p3 L Inv g h->(∀w1 w2 s,Inv w1 s->Ext w1 w2->Inv w2 s)->B<=w.heap.size->(∀w1 w2 s,Inv w1 s->(∀x,x < B->w2.heap[x]? =w1.heap[x]?)->w1.heap.size<=w2.heap.size->Inv w2 s)->Inv w s->
 Calls Tryz.prog 170 #[v,.int .i64 b,.func (.func 178) #[] #[.pointer (some ⟨p1,0,none⟩),.pointer (some ⟨p2,0,none⟩),.pointer (some ⟨p3,0,none⟩)]] w fun e w'=> ∃u,e= .returned u/\Made w w' 25 (chgT g t b) u/\Only L w w'/\Inv w' (s && allT h t b)
theorem j110: ∀t:Tr,ChgC_sb t:=Tr.ind fun k n ks hk=> by
 intro a w v b d p1 p2 p3 L B Inv g h s hsh j7 ha hL hb0 hb1 hT hst hB qf hI;obtain⟨A,cap,rfl,hl,hc,hK⟩:=Lies.mk_iff.1 j7;obtain⟨-,ah,az,hsk⟩:=j12 hsh;obtain⟨i0,hi,hz0,hz1,hz2⟩:=info_parts y215;have hlc:=y19 ks;have hcc:=hc;unfold maxLen at hcc;simp only[cnt] at hb1;have O6:=q102 k;obtain⟨b1,d1⟩: ∃b1,(k==1)=b1:=⟨_,rfl⟩;have yg: ∀x,x∈L->x < w.heap.size:=fun x hx=>(hL x hx).2
 have C6:Ext w ((w.alloc (.cells #[.int .i64 k,.int .i64 n,.slice A ks.length cap] 25)).alloc (.cells #[.int .i64 0,.int .i64 0,.slice none 0 0] 25)):=((xr w).alloc _).alloc _;obtain⟨T7,F2,hs1⟩:=blk2 (xr ((w.alloc (.cells #[.int .i64 k,.int .i64 n,.slice A ks.length cap] 25)).alloc (.cells #[.int .i64 0,.int .i64 0,.slice none 0 0] 25)));have Hn:((w.alloc (.cells #[.int .i64 k,.int .i64 n,.slice A ks.length cap] 25)).alloc (.cells #[.int .i64 0,.int .i64 0,.slice none 0 0] 25)).heap.size=w.heap.size+2:=by simp
 cases b1 with
 |true=>
  obtain rfl:k=1:=by simpa using d1
  have e1:chgT g (.mk 1 n ks) b=g n b:=by unfold chgT;rw[if_pos rfl]
  have e2:allT h (.mk 1 n ks) b=h n b:=by unfold allT;rw[if_pos rfl]
  rw[e1,e2];have oh:=hdq (hT _ s n b (ha.trans C6) (hst _ _ _ hI C6) ah (by omega) hb0 (by omega));clear e1 e2 hT hst hI;go_enter Tryz.func170,Tryz.ntmps170;go_wp2_with fail;refine oh.out.mono ?_;rintro e w1 ⟨u,rfl,hM,ho,hI⟩;obtain⟨a1,a2,a3,a4,a5,rfl⟩:=hM.three';have hb2:=(ho.block _ (by omega) (fun hm=> by have:=yg _ hm;omega)).trans F2;obtain⟨s0,s1,s2,f0,f1,f2⟩:=own3 hb2;have hso:=ho.size;clear oh T7 F2 hb2;go_wp2_with fail;refine bodyPost_ret (v:= .agg #[.int .i64 a1,.int .i64 a2,.slice a3 a4 a5]) (by simp[results,Tryz.results170,go_sem,s0,s1,s2]) rfl ⟨_,rfl, ?_, ?_, ?_⟩
  · exact Made.since (hM.after ((((y25.refl _ _).setCell (by simp) _).setCell (by simp) _).setCell (by simp) _)) (by simp;omega)
  · have h0:=(oE (L:=L) C6).trans ho
    refine⟨h0.os,h0.tape,h0.output,by simpa using h0.size,fun x hx hn=> ?_⟩;rw[Below.heap_setCell _ _ _ _ (by simp;omega),Below.heap_setCell _ _ _ _ (by simp;omega),Below.heap_setCell _ _ _ _ (by simp;omega)];exact h0.block x hx hn
  · refine qf _ _ _ hI (fun x hx=> ?_) (by simp)
    rw[Below.heap_setCell _ _ _ _ (by simp;omega),Below.heap_setCell _ _ _ _ (by simp;omega),Below.heap_setCell _ _ _ _ (by simp;omega)]
 |false=>
  have Bp:k≠1:=by simpa using d1
  obtain⟨rs,il⟩: ∃rs,rs=y92 g k ks 0 b:=⟨_,rfl⟩;have hres:chgT g (.mk k n ks) b= .mk k n rs:=by
   rw[il]
   conv=> lhs;unfold chgT
   rw[if_neg Bp]
  have hall:allT h (.mk k n ks) b=j42 h k ks 0 b:=by
   conv=> lhs;unfold allT
   rw[if_neg Bp]
  have Dn:rs.length=ks.length:=by rw[il,j80]
  have bk: ∀j (hj:j < ks.length),rs[j]'(by omega)=chgT g ks[j] (b+und k j):=fun j hj=> by
   subst il;rw[q106 g hj,Nat.zero_add]
  rw[hres,hall];have W4:=hdq bk;have HST:=hdq hst;have jl:=hdq qf;have V1:=hdq hT;have ov:=hdq yg;have Hl:=hdq hL;have HSK:=hdq hsk;have Py:=hst _ _ _ hI C6;clear hres il bk hall hst qf hT yg hL hsk;go_enter Tryz.func170,Tryz.ntmps170;go_wp2_with fail;generalize i7:(w.alloc (.cells #[.int .i64 k,.int .i64 n,.slice A ks.length cap] 25)).alloc (.cells #[.int .i64 0,.int .i64 0,.slice none 0 0] 25)=w1 at*;clear i7;obtain⟨W,hW⟩: ∃W,W=w1.alloc (.cells #[.int .i64 k,.int .i64 n,.slice none 0 0] 25):=⟨_,rfl⟩;have Eu:W.heap.size=w.heap.size+3:=by rw[hW];simp;omega
  have I3:Ext w1 W:=hW▸(xr w1).alloc _;have ot:W.heap[w.heap.size+1+1]? =some (.cells #[.int .i64 k,.int .i64 n,.slice none 0 0] 25 (0,0)):=by
   have:=heap_alloc_new w1 (.cells #[.int .i64 k,.int .i64 n,.slice none 0 0] 25);rw[Hn] at this;rw[hW];exact this
  rw[<-hW];have Yu:=HST.out _ _ _ Py I3;clear hW Py hI
  go_loopw [26] (fun i wr=> ∃(j:Nat) (v:Value) (s2:Bool),j<=ks.length/\i= .int .i64 j/\wr.heap[w.heap.size+1+1]? =some (.cells #[.int .i64 k,.int .i64 n,v] 25 (0,0))/\Grow W wr 25 v (rs.take j)/\Only L w1 wr/\W.heap.size<=wr.heap.size/\Inv wr s2/\(s && j42 h k ks 0 b)=(s2 && j42 h k (ks.drop j) j b)) (fun i _=> ks.length -(intOf i).toNat)
  case atStart=> exact⟨0,_,s,Nat.zero_le _,rfl,ot,Grow.nil _ _ _,oE I3,Nat.le_refl _,Yu,rfl⟩
  case round=>
   obtain⟨j,v,s2,hj,rfl,J9,hG,ho,hle,Gy,dv⟩:=hrel;have HE:=hdq dv;have tu:Ext a wr:=ho.ext (ha.trans C6) (fun x hx=>(Hl.out x hx).1);have nv:=(ho.block _ (by omega) (fun hm=> by have:=ov.out _ hm;omega)).trans T7;obtain⟨x0,x1,x2,-,-,-⟩:=own3 nv;clear dv;by_cases hlt:j < ks.length
   · obtain⟨b',o,k',n',A',cap',kids,rfl,HK,c0,c1,c2,K8,L6,hK',D6,j5⟩:=hK.get tu hlt
     have zu:Lies a (.mk k' n' kids) (.agg #[.int .i64 k',.int .i64 n',.slice A' kids.length cap']):=by
      obtain⟨b2,o2,k2,n2,A2,M3,l8,h1,h2,q0,q1,q2,h6,h7,h8,h9,h10⟩:=hK.get (xr a) hlt;obtain⟨rfl,rfl⟩:b'=b2/\o=o2:=by cases h1;exact⟨rfl,rfl⟩
      have e3:=(tu.cell q0).symm.trans c0;have e4:=(tu.cell q1).symm.trans c1;have e5:=(tu.cell q2).symm.trans c2;have e6:=h2.out.symm.trans HK.out;cases e3;cases e4;cases e6;cases e5
      exact h9
     have L8:=j84 (l:=rs) (j:=j) (by omega) (W4.out j hlt);rw[HK.out] at L8;have pn:j42 h k (ks.drop j) j b=(allT h (.mk k' n' kids) (b+und k j)&& j42 h k (ks.drop (j+1)) (j+1) b):=by
      rw[List.drop_eq_getElem_cons hlt,HK.out]
      conv=> lhs;unfold j42
     have Gf:=y86 k j;obtain⟨uu,hu⟩: ∃u,u=und k j:=⟨_,rfl⟩;have HU:=hdq (fun W=> j82 k j W);rw[<-hu] at HU Gf L8 pn;have qw:=hdq L8;have Gq:=hdq pn;have hcm:=y15 j5;have lf:=HSK.out _ j5;have my:(j:Int) <(ks.length:Int):=by omega
     have pu:=hdq (IntWalk.i64_in (b+uu) ⟨by omega,by omega⟩);have HR:=hdq (hk _ j5 a);clear hu L8 pn;have hlen:(rs.take j).length < 1099511627776:=by rw[List.length_take];omega
     have Y2:(rs.take j).length=j:=by rw[List.length_take];omega
     have HL:=hdq Y2;go_wp2_with fail;have hx:=(xr wr).alloc (.cells #[.int .i64 k',.int .i64 n',.slice A' kids.length cap'] 25);have R6:=heap_alloc_new wr (.cells #[.int .i64 k',.int .i64 n',.slice A' kids.length cap'] 25);obtain⟨wd,hwd⟩: ∃wd,wd=wr.alloc (.cells #[.int .i64 k',.int .i64 n',.slice A' kids.length cap'] 25):=⟨_,rfl⟩;rw[<-hwd] at hx R6⊢;clear hwd;have hsr:W.heap.size<=wr.heap.size:=hle;have Md:wr.heap.size < wd.heap.size:=j10 R6;have Rz:=hdq hG;have Aj:=hx.blk J9;have ze:=hx.blk nv;have hv:=q10 Aj 2;have yn:=HST.out _ _ _ Gy hx;have Rt:=HST.out _ _ _ yn (xr wd).drew;have ny:=hx.trans (xr wd).drew;have HF:=hdq (HR.out wd.drew _ (b+uu) (d - 1) p1 p2 p3 L B Inv g h s2 lf zu (tu.trans ny) (fun x hx=>⟨(Hl.out x hx).1,by have:=ov.out x hx;show x < wd.heap.size;omega⟩) (by omega) (by omega) V1.out HST.out (by show B<=wd.heap.size;omega) jl.out Rt);have HS:=hdq (show∀w':World,w'.heap[w.heap.size]? =wd.heap[w.heap.size]? ->w'.heap[wr.heap.size]? =wd.heap[wr.heap.size]? ->w'.cell? ⟨w.heap.size,0,none⟩=some (.int .i64 k)/\w'.cell? ⟨wr.heap.size,0,none⟩=some (.int .i64 k')/\w'.cell? ⟨wr.heap.size,1,none⟩=some (.int .i64 n')/\w'.cell? ⟨wr.heap.size,2,none⟩=some (.slice A' kids.length cap') from fun w' h1 h2=> by
      have q1:=h1.trans ze;have q2:=h2.trans R6;exact⟨q10 q1 0,q10 q2 0,q10 q2 1,q10 q2 2⟩)
     have HV:=hdq (show∀w':World,w'.heap[w.heap.size+1+1]? =wd.heap[w.heap.size+1+1]? ->w'.heap[w.heap.size+1+1]? =some (.cells #[.int .i64 k,.int .i64 n,v] 25 (0,0)) from fun w' h1=> h1.trans Aj);have hoX:Only L w1 wd:=ho.trans (oE hx);clear Y2 J9 hG hle hcc x0 x1 x2 c0 c1 c2 nv R6 ze tu zu HR lf Gy yn Rt D6 hK';rw[show Op.load 23 (Operand.tmp 31)=ldO 23 31 from rfl]
     go_region_held_law (fun w'=> w'.cell? ⟨w.heap.size,0,none⟩=some (.int .i64 k)/\w'.cell? ⟨wr.heap.size,0,none⟩=some (.int .i64 k')/\w'.cell? ⟨wr.heap.size,1,none⟩=some (.int .i64 n')/\w'.cell? ⟨wr.heap.size,2,none⟩=some (.slice A' kids.length cap'))
      (first|exact HS.out _ ((Below.heap_setCell _ _ _ _ (by show w.heap.size≠w.heap.size+1+1;omega)).trans Sl) ((Below.heap_setCell _ _ _ _ (by show wr.heap.size≠w.heap.size+1+1;omega)).trans Tw) |exact HS.out _ Sl Tw|exact HS.out _ ((Below.heap_alloc _ _ _ (by omega)).trans Hr) ((Below.heap_alloc _ _ _ (by omega)).trans Iu) |exact HS.out _ Hr Iu|exact HS.out _ rfl rfl)
      (first|(go_simp;go_at_call 107;refine(HU.out _).mono ?_;rintro e wu ⟨rfl,rfl⟩) |(go_simp;go_at_call 170;(try rw[pu.out]);refine HF.out.mono ?_;rintro e w4 ⟨u,rfl,hM,N9,hI4⟩;obtain⟨a1,a2,a3,a4,a5,rfl⟩:=hM.three';have jq:wd.heap.size<=w4.heap.size:=N9.size;have Hr:w4.heap[w.heap.size]? =wd.heap[w.heap.size]? :=N9.block _ (by show w.heap.size < wd.heap.size;omega) (fun hm=> by have:=ov.out _ hm;omega);have Iu:w4.heap[wr.heap.size]? =wd.heap[wr.heap.size]? :=N9.block _ Md (fun hm=> by have:=ov.out _ hm;omega);have Qk:w4.heap[w.heap.size+1+1]? =wd.heap[w.heap.size+1+1]? :=N9.block _ (by show w.heap.size+1+1 < wd.heap.size;omega) (fun hm=> by have:=ov.out _ hm;omega);have hv4:=q10 (HV.out _ Qk) 2;have hs4b:=World.block_lt_of_cell? _ _ hv4) |(refine q53 _ (by rfl) (.tmp 32) (.tmp 42) _ (by rfl) 25 i0 _ Tryz.underlying23 hi hz0 hz1 hz2 rfl (by rfl) Rz.out (by omega) (by omega) (fun x h1 h2=>(N9.block x (by show x < wd.heap.size;omega) (fun hm=> by have:=ov.out _ hm;omega)).trans (hx.heap x h2)) (hM.since (by show wr.heap.size<=wd.heap.size;omega)) ((xr _).alloc _) (by rfl) (heap_alloc_new _ _) hlen ?_;intro v' w5 G7 E6 uw;obtain⟨B5,c5,rfl,q1,q2,-⟩:=G7.made;have Sl:w5.heap[w.heap.size]? =wd.heap[w.heap.size]? :=(E6.block _ (by omega)).trans Hr;have Tw:w5.heap[wr.heap.size]? =wd.heap[wr.heap.size]? :=(uw _ (by show wr.heap.size<=_;omega) (by omega)).trans Iu;have Ib:=HV.out _ ((E6.block _ (by omega)).trans Qk);have gi:=q10 Ib 2;have Er:=y13 Ib 2))
     all_goals(
      have ae:Only L w1 w5:=(hoX.trans ((oE (xr wd).drew).trans N9)).below E6 (by omega);have hs5:=E6.size;rw[List.length_append,List.length_singleton,HL.out,qw.out] at G7;have rq:=fun u=> G7.after ((y25.refl W.heap.size w5).setCell (p:=⟨w.heap.size+1+1,2,none⟩) (by show w.heap.size+1+1 < W.heap.size;omega) u)
      have Zc:=fun u=> jl.out w4 (w5.setCell ⟨w.heap.size+1+1,2,none⟩ u) _ hI4 (fun x hx=>(Below.heap_setCell _ _ _ _ (by show x≠w.heap.size+1+1;omega)).trans (E6.block x (by omega))) (by simp;omega)
      have Yi:=fun u=>(show Only L w1 (w5.setCell ⟨w.heap.size+1+1,2,none⟩ u) from⟨ae.os,ae.tape,ae.output,by simpa using ae.size,fun x hx hn=>(Below.heap_setCell _ _ _ _ (by show x≠w.heap.size+1+1;omega)).trans (ae.block x hx hn)⟩)
      clear hv4 hv hM N9;go_wp2_with fail
      go_roundw
      case rel=> exact⟨j+1,_,_,by omega,by go_num,j11 Ib 2 _,rq _,Yi _,by simp;omega,Zc _,by rw[HE.out,Gq.out,Bool.and_assoc]⟩
      case measure=> simp[intOf];omega)
   · obtain⟨B5,c5,rfl,q1,q2,ij⟩:=hG.made
     have Ig:rs.take j=rs:=List.take_of_length_le (by omega);obtain⟨r0,r1,r2,-,-,-⟩:=own3 J9;have Z6:=(ho.block _ hs1 (fun hm=> by have:=ov.out _ hm;omega)).trans F2;obtain⟨s0,s1,Yo,f0,f1,f2⟩:=own3 Z6;rw[Ig] at q1 r2 ij;rw[List.drop_of_length_le (by omega)] at HE;clear J9;go_wp2_with fail;refine bodyPost_ret (v:= .agg #[.int .i64 k,.int .i64 n,.slice B5 rs.length c5]) (by simp[results,Tryz.results170,go_sem,s0,s1,Yo,Dn]) rfl ⟨_,rfl, ?_, ?_, ?_⟩
     · exact Made.since (Made.after (Made.mk q1 q2 ij) ((((y25.refl _ _).setCell (by show w.heap.size+1 < _;omega) _).setCell (by show w.heap.size+1 < _;omega) _).setCell (by show w.heap.size+1 < _;omega) _)) (by omega)
     · have h0:=(oE (L:=L) C6).trans ho
       refine⟨h0.os,h0.tape,h0.output,by simpa using h0.size,fun x hx hn=> ?_⟩;rw[Below.heap_setCell _ _ _ _ (by show x≠w.heap.size+1;omega),Below.heap_setCell _ _ _ _ (by show x≠w.heap.size+1;omega),Below.heap_setCell _ _ _ _ (by show x≠w.heap.size+1;omega)];exact h0.block x hx hn
     · have hE:=HE.out
       simp only[j42,Bool.and_true] at hE;rw[hE];refine jl.out _ _ _ Gy (fun x hx=> ?_) (by simp);rw[Below.heap_setCell _ _ _ _ (by show x≠w.heap.size+1;omega),Below.heap_setCell _ _ _ _ (by show x≠w.heap.size+1;omega),Below.heap_setCell _ _ _ _ (by show x≠w.heap.size+1;omega)]
theorem q132(u:Tr): ∀{k:Int} {ts:List Tr} {i j:Nat} {x d:Int} (h:j < ts.length),(q21 u k ts i x d)[j]'(by rw[q87];exact h)=sbsT u ts[j] (x+und k (i+j)) (d+und k (i+j))
 |k,t::ts,i,0,x,d,h=> by simp[q21]
 |k,t::ts,i,j+1,x,d,h=> by
  simp only[q21,List.getElem_cons_succ];rw[q132 u (j:=j) (by simpa using h),show i+1+j=i+(j+1) by omega]
def y209(t:Tr):Prop:= ∀(w:World) (v:Value) (x:Int) (u:Tr) (vu:Value) (dp d:Int),shape sigT t d=true->Lies w t v->cnt t<=1000->shape sigT u 30=true->cnt u<=1000->Lies w u vu->0<=x->x+cnt t<=1000000->0<=dp->dp+cnt t<=1000000->
 Calls Tryz.prog 113 #[v,.int .i64 x,vu,.int .i64 dp] w fun e w'=> ∃r,e= .returned r/\Made w w' 25 (sbsT u t x dp) r/\Ext w w'
theorem y142: ∀t:Tr,y209 t:=Tr.ind fun k n ks hk=> by
 intro w v x u vu dp d hsh j7 U7 Pe Ex W7 hx0 hx1 mq uj;obtain⟨-,ah,az,hsk⟩:=j12 hsh;have O6:=q102 k;obtain⟨A,cap,rfl,hl,hc,hK⟩:=Lies.mk_iff.1 j7;have Vr:=hdq (fun W (hW:Ext w W)=> q148 u W vu dp 0 30 Pe (W7.ext hW) Ex mq (by omega) (by omega) (by omega));have Up:=hdq (fun t ht W kv x' d' h1 h2 h3 h4 h5 h6 (hW:Ext w W)=> hk t ht W kv x' u vu d' (d - 1) (hsk t ht) h1 h2 Pe Ex (W7.ext hW) h3 h4 h5 h6);have hinu2:=W7;obtain⟨ku,nu,kus⟩:=u;obtain⟨Au,cu,rfl,hlu,hcu',-⟩:=Lies.mk_iff.1 W7;obtain⟨i0,hi,hz0,hz1,hz2⟩:=info_parts y215;have hcc:=hc;unfold maxLen at hcc;simp only[cnt] at U7 hx1 uj;have hlc:=y19 ks;obtain⟨b1,d1⟩: ∃b1,(k==1)=b1:=⟨_,rfl⟩;obtain⟨rs,il⟩: ∃rs,rs=q21 (.mk ku nu kus) k ks 0 x dp:=⟨_,rfl⟩;have Dn:rs.length=ks.length:=by rw[il,q87]
 have bk: ∀j (h:j < ks.length),rs[j]'(by omega)=sbsT (.mk ku nu kus) ks[j] (x+und k j) (dp+und k j):=fun j h=> by
  subst il;rw[q132 _ h,Nat.zero_add]
 have hres:sbsT (.mk ku nu kus) (.mk k n ks) x dp=if k=1/\n=x then shfT dp (.mk ku nu kus) 0 else .mk k (if k=1/\x < n then n - 1 else n) rs:=by
  rw[il]
  conv=> lhs;unfold sbsT
 have W4:=hdq bk;clear il bk W7;cases b1 with
 |true=>
  obtain rfl:k=1:=by simpa using d1
  obtain⟨rfl,-,-⟩:=y89 hsh;obtain rfl:rs= []:=List.eq_nil_of_length_eq_zero (by simpa using Dn);by_cases h1:n=x
  · rw[hres,if_pos ⟨rfl,h1⟩]
    have d2:(n==x)=true:=beq_iff_eq.2 h1;clear hres h1 Up W4;go_enter Tryz.func113,Tryz.ntmps113;go_wp2_with fail;have C6:=(((xr w).alloc (.cells #[.int .i64 1,.int .i64 n,.slice A 0 cap] 25)).alloc (.cells #[.int .i64 ku,.int .i64 nu,.slice Au kus.length cu] 25)).alloc (.cells #[.int .i64 0,.int .i64 0,.slice none 0 0] 25);obtain⟨-,-,F2,hsz⟩:=blk3 (xr (((w.alloc (.cells #[.int .i64 1,.int .i64 n,.slice A 0 cap] 25)).alloc (.cells #[.int .i64 ku,.int .i64 nu,.slice Au kus.length cu] 25)).alloc (.cells #[.int .i64 0,.int .i64 0,.slice none 0 0] 25)));refine(Vr.out _ C6).mono ?_;rintro e w1 ⟨r,rfl,hM,e1⟩;obtain⟨a1,a2,a3,a4,a5,rfl⟩:=hM.three';obtain⟨s0,s1,s2,f0,f1,f2⟩:=own3 (e1.blk F2);go_wp2_with fail;refine bodyPost_ret (v:= .agg #[.int .i64 a1,.int .i64 a2,.slice a3 a4 a5]) (by simp[results,Tryz.results113,go_sem,s0,s1,s2]) rfl ⟨_,rfl, ?_, ?_⟩
    · exact Made.since (hM.after ((((y25.refl _ _).setCell (by simp) _).setCell (by simp) _).setCell (by simp) _)) (by simp;omega)
    · exact((((C6.trans e1).setCell (by simp;omega) _).setCell (by simp;omega) _).setCell (by simp;omega) _)
  · have d2:(n==x)=false:=beq_eq_false_iff_ne.2 h1
    by_cases h2:x < n
    · have d3:decide (x < n)=true:=decide_eq_true h2
      rw[hres,if_neg (fun h=> h1 h.2),if_pos ⟨rfl,h2⟩];clear hres h1 Up W4 Vr;go_enter Tryz.func113,Tryz.ntmps113;go_wp2_with fail;refine wp_loop_rounds 1 ?_;rw[rounds_succ];go_wp2_with fail;exact bodyPost_ret (v:= .agg #[.int .i64 1,.int .i64 (n - 1),.slice none 0 0]) (by simp[results,Tryz.results113,go_sem]) rfl ⟨_,rfl,Made.leaf _ _ _ _ _,((((xr w).alloc _).alloc _).alloc _).alloc _⟩
    · have d3:decide (x < n)=false:=decide_eq_false h2
      rw[hres,if_neg (fun h=> h1 h.2),if_neg (fun h=> h2 h.2)];clear hres h1 Up W4 Vr;go_enter Tryz.func113,Tryz.ntmps113;go_wp2_with fail;refine wp_loop_rounds 1 ?_;rw[rounds_succ];go_wp2_with fail;exact bodyPost_ret (v:= .agg #[.int .i64 1,.int .i64 n,.slice none 0 0]) (by simp[results,Tryz.results113,go_sem]) rfl ⟨_,rfl,Made.leaf _ _ _ _ _,((((xr w).alloc _).alloc _).alloc _).alloc _⟩
 |false=>
  have Bp:k≠1:=by simpa using d1
  rw[hres,if_neg (fun h=> Bp h.1),if_neg (fun h=> Bp h.1)];clear hres Vr;go_enter Tryz.func113,Tryz.ntmps113;go_wp2_with fail;obtain⟨w1,i7⟩: ∃w1,w1=((w.alloc (.cells #[.int .i64 k,.int .i64 n,.slice A ks.length cap] 25)).alloc (.cells #[.int .i64 ku,.int .i64 nu,.slice Au kus.length cu] 25)).alloc (.cells #[.int .i64 0,.int .i64 0,.slice none 0 0] 25):=⟨_,rfl⟩;obtain⟨W,hW⟩: ∃W,W=w1.alloc (.cells #[.int .i64 k,.int .i64 n,.slice none 0 0] 25):=⟨_,rfl⟩;have hs1:w1.heap.size=w.heap.size+1+1+1:=by rw[i7];simp
  have Eu:W.heap.size=w.heap.size+4:=by rw[hW];simp;omega
  have C6:Ext w w1:=i7▸(((xr w).alloc _).alloc _).alloc _;have I3:Ext w1 W:=hW▸(xr w1).alloc _;have F2:w1.heap[w.heap.size+1+1]? =some (.cells #[.int .i64 0,.int .i64 0,.slice none 0 0] 25 (0,0)):=by
   rw[i7];exact(blk3 (xr _)).2.2.1
  have ot:W.heap[w.heap.size+1+1+1]? =some (.cells #[.int .i64 k,.int .i64 n,.slice none 0 0] 25 (0,0)):=by
   have:=heap_alloc_new w1 (.cells #[.int .i64 k,.int .i64 n,.slice none 0 0] 25);rw[hs1] at this;rw[hW];exact this
  have T7:w1.heap[w.heap.size]? =some (.cells #[.int .i64 k,.int .i64 n,.slice A ks.length cap] 25 (0,0)):=by
   rw[i7];exact(blk3 (xr _)).1
  have hbU:w1.heap[w.heap.size+1]? =some (.cells #[.int .i64 ku,.int .i64 nu,.slice Au kus.length cu] 25 (0,0)):=by
   rw[i7];exact(blk3 (xr _)).2.1
  rw[<-i7,<-hW];clear hW i7
  go_loopw [10,11] (fun i _ wr=> ∃(j:Nat) (v:Value),j<=ks.length/\i= .int .i64 j/\wr.heap[w.heap.size+1+1+1]? =some (.cells #[.int .i64 k,.int .i64 n,v] 25 (0,0))/\Grow W wr 25 v (rs.take j)/\Ext w1 wr/\W.heap.size<=wr.heap.size) (fun i _ _=> ks.length -(intOf i).toNat)
  case atStart=> exact⟨0,_,Nat.zero_le _,rfl,ot,Grow.nil _ _ _,I3,Nat.le_refl _⟩
  case round=>
   obtain⟨j,v,hj,rfl,J9,hG,he,hle⟩:=hrel;by_cases hlt:j < ks.length
   · obtain⟨b,o,k',n',A',cap',kids,rfl,HK,c0,c1,c2,K8,L6,hK',D6,j5⟩:=hK.get (C6.trans he) hlt
     have L8:=j84 (l:=rs) (j:=j) (by omega) (W4.out j hlt);rw[HK.out] at L8;have Gf:=y86 k j;have lf:=hsk _ j5;have my:(j:Int) <(ks.length:Int):=by omega
     obtain⟨uu,hu⟩: ∃u,u=und k j:=⟨_,rfl⟩;have HU:=hdq (fun W=> q100 k j W);rw[<-hu] at HU Gf L8;have qw:=hdq L8;have pu:=hdq (IntWalk.i64_in (x+uu) ⟨by omega,by omega⟩);have HWS:=hdq (IntWalk.i64_in (dp+uu) ⟨by omega,by omega⟩);clear hu L8;have hcm:=y15 j5;have hlen:(rs.take j).length < 1099511627776:=by rw[List.length_take];omega
     have Y2:(rs.take j).length=j:=by rw[List.length_take];omega
     have HL:=hdq Y2;have U5:=he.blk T7;obtain⟨t0,-,t2,-,-,-⟩:=own3 U5;obtain⟨u0,u1,u2,-,-,-⟩:=own3 (he.blk hbU);have hj':(j:Int) <(ks.length:Int):=by omega
     go_wp2_with fail;refine(HU.out _).mono ?_;rintro e wu ⟨rfl,rfl⟩;go_wp2_with fail;have R9:=hle;have N4:=hG;have Y3:=J9;have hv:=q10 Y3 2;have C8: ∀w',Below W.heap.size wr w'->w'.heap[w.heap.size+1+1+1]? =some (.cells #[.int .i64 k,.int .i64 n,v] 25 (0,0)):=fun w' hB=>(hB.block (w.heap.size+1+1+1) (by omega)).trans Y3
     have p5:=hdq C8;have D8:Ext wr wr.drew:=(xr wr).drew;have dr:=D6.ext D8;have nt:=he;have Ob:=hK.lt hlt;have HS:=hdq (show∀w',Below (w.heap.size+1+1) wr w'->w'.cell? ⟨w.heap.size,2,none⟩=some (.slice (some ⟨b,o,none⟩) ks.length cap)/\w'.cell? ⟨w.heap.size+1,0,none⟩=some (.int .i64 ku)/\w'.cell? ⟨w.heap.size+1,1,none⟩=some (.int .i64 nu)/\w'.cell? ⟨w.heap.size+1,2,none⟩=some (.slice Au kus.length cu)/\w'.cell? ⟨b,o+j*3,none⟩=some (.int .i64 k')/\w'.cell? ⟨b,o+j*3+1,none⟩=some (.int .i64 n')/\w'.cell? ⟨b,o+j*3+2,none⟩=some (.slice A' kids.length cap') from fun w' hw'=>
      ⟨(hw'.cell (p:=⟨w.heap.size,2,none⟩) (by show w.heap.size < _;omega)).trans t2,(hw'.cell (p:=⟨w.heap.size+1,0,none⟩) (by show w.heap.size+1 < _;omega)).trans u0,(hw'.cell (p:=⟨w.heap.size+1,1,none⟩) (by show w.heap.size+1 < _;omega)).trans u1,(hw'.cell (p:=⟨w.heap.size+1,2,none⟩) (by show w.heap.size+1 < _;omega)).trans u2,(hw'.cell (p:=⟨b,o+j*3,none⟩) (by show b < _;omega)).trans c0,(hw'.cell (p:=⟨b,o+j*3+1,none⟩) (by show b < _;omega)).trans c1,(hw'.cell (p:=⟨b,o+j*3+2,none⟩) (by show b < _;omega)).trans c2⟩)
     have Zs:Below (w.heap.size+1+1) wr wr.drew:=(Below.refl _ _).drew;clear C8 Y2 J9 hG he hle hcc;rw[show Op.load 23 (Operand.tmp 53)=ldO 23 53 from rfl]
     go_region_held_law (fun w'=> w'.cell? ⟨w.heap.size,2,none⟩=some (.slice (some ⟨b,o,none⟩) ks.length cap)/\w'.cell? ⟨w.heap.size+1,0,none⟩=some (.int .i64 ku)/\w'.cell? ⟨w.heap.size+1,1,none⟩=some (.int .i64 nu)/\w'.cell? ⟨w.heap.size+1,2,none⟩=some (.slice Au kus.length cu)/\w'.cell? ⟨b,o+j*3,none⟩=some (.int .i64 k')/\w'.cell? ⟨b,o+j*3+1,none⟩=some (.int .i64 n')/\w'.cell? ⟨b,o+j*3+2,none⟩=some (.slice A' kids.length cap'))
      (first|exact HS.out _ ((Mm.setCell (by show _<=w.heap.size+1+1+1;omega) _)) |exact HS.out _ Mm|exact HS.out _ (Ju.alloc (by omega) _) |exact HS.out _ Ju|exact HS.out _ Zs)
      (first|(go_simp;go_at_call 113;(try rw[pu.out]);(try rw[HWS.out]);refine(Up.out _ j5 _ _ (x+uu) (dp+uu) dr (by omega) (by omega) (by omega) (by omega) (by omega) ((C6.trans nt).trans D8)).mono ?_;rintro e w4 ⟨u,rfl,hM,h4⟩;obtain⟨a1,a2,a3,a4,a5,rfl⟩:=hM.three';have hv4:=q10 (p5.out _ ((D8.trans h4).below R9)) 2;have jq:=World.block_lt_of_cell? _ _ hv4;have Ju:Below (w.heap.size+1+1) wr w4:=((D8.trans h4).below R9).mono (by omega)) |(refine q29 _ (by rfl) (.tmp 54) (.tmp 68) _ (by rfl) 25 i0 _ Tryz.underlying23 hi hz0 hz1 hz2 rfl (by rfl) N4 R9 (D8.trans h4) (hM.since (Nat.le_refl _)) ((xr _).alloc _) (by rfl) (heap_alloc_new _ _) hlen ?_;intro v' w5 G7 E6;obtain⟨B5,c5,rfl,q1,q2,-⟩:=G7.made;have gi:=q10 (p5.out _ E6) 2;have Er:=y13 (p5.out _ E6) 2;have Mm:Below (w.heap.size+1+1) wr w5:=E6.mono (by omega)))
     all_goals(
      have fh:Ext w1 w5:=nt.trans' E6 (by omega);have hs5:=E6.size;have G5:=p5.out _ E6;rw[List.length_append,List.length_singleton,HL.out,qw.out] at G7;have rq:=fun u=> G7.after ((y25.refl W.heap.size w5).setCell (p:=⟨w.heap.size+1+1+1,2,none⟩) (by show w.heap.size+1+1+1 < W.heap.size;omega) u)
      clear hv4 jq hv p5 hM h4 c0 c1 c2 t2 t0 u0 u1 u2;go_wp2_with fail
      go_roundw
      case rel=> exact⟨j+1,_,by omega,by go_num,j11 G5 2 _,rq _,fh.setCell (by show _<=w.heap.size+1+1+1;omega) _,by simp;omega⟩
      case measure=> simp[intOf];omega)
   · obtain⟨B5,c5,rfl,q1,q2,ij⟩:=hG.made
     have M0:j=ks.length:=by omega
     have Ig:rs.take j=rs:=List.take_of_length_le (by omega);obtain⟨r0,r1,r2,-,-,-⟩:=own3 J9;have U5:=he.blk T7;obtain⟨-,-,t2,-,-,-⟩:=own3 U5;have Z6:=he.blk F2;obtain⟨s0,s1,s2,f0,f1,f2⟩:=own3 Z6;rw[Ig] at q1 r2 ij;clear J9;go_wp2_with fail;refine bodyPost_ret (v:= .agg #[.int .i64 k,.int .i64 n,.slice B5 rs.length c5]) (by simp[results,Tryz.results113,go_sem,s0,s1,s2,Dn]) rfl ⟨_,rfl, ?_, ?_⟩
     · exact Made.since (Made.after (Made.mk q1 q2 ij) ((((y25.refl _ _).setCell (by show w.heap.size+1+1 < _;omega) _).setCell (by show w.heap.size+1+1 < _;omega) _).setCell (by show w.heap.size+1+1 < _;omega) _)) (by omega)
     · exact((((C6.trans he).setCell (by simp <;> omega) _).setCell (by simp <;> omega) _).setCell (by simp <;> omega) _)
end Go.Proofs.YtbnkbepgmenblaaGreat
namespace Go.Proofs.YtbnkbepgmenblaaGreat
open Go.RowKit
theorem InK.bound{w:World}{S:Nat->Prop}{A:Option Addr}{ks:List Tr}(h:InK w S A ks):InK w (fun b=> S b/\b < w.heap.size) A ks:=by
 rcases h with h|⟨b,o,rfl,hb,hl⟩
 · exact .inl h
 · cases ks with
   |nil=> exact .inl rfl
   |cons t ts=>
    refine .inr ⟨b,o,rfl,⟨hb, ?_⟩,InL.bound hl⟩;unfold InL at hl;obtain⟨⟨v0,v1,v2,h0,-⟩,-⟩:=hl;exact World.block_lt_of_cell? _ _ h0
theorem InT.keep{w W:World}{N:Nat->Prop}{t:Tr}{v:Value}{g:Nat}(h:InT w N t v)(he:Ext w W)(hg:w.heap.size<=g):InT W (fun b=> N b/\b≠g) t v:=
 InT.mono (fun b hb=>⟨hb.1,by omega⟩) (fun b hb=> he.heap b hb.2) h.bound
theorem InK.keep{w W:World}{N:Nat->Prop}{A:Option Addr}{ks:List Tr}{g:Nat}(h:InK w N A ks)(he:Ext w W)(hg:w.heap.size<=g):InK W (fun b=> N b/\b≠g) A ks:=
 InK.mono (fun b hb=>⟨hb.1,by omega⟩) (fun b hb=> he.heap b hb.2) h.bound
theorem InK.later{w w':World}{S:Nat->Prop}{A:Option Addr}{ks:List Tr}(h:InK w S A ks)(he:Ext w w'):InK w' S A ks:=
 InK.mono (fun _ hb=> hb.1) (fun b hb=> he.heap b hb.2) h.bound
theorem InT.lies'{w:World}{N:Nat->Prop}{t:Tr}{v:Value}(h:InT w N t v):Lies w t v:=InT.mono (fun b hb=> hb.2) (fun _ _=> rfl) h.bound
theorem InT.ret{W:World}{N:Nat->Prop}{t:Tr}{v:Value}{g:Nat}(h:InT W (fun b=> N b/\b≠g) t v)(x y z:Value):InT (((W.setCell ⟨g,0,none⟩ x).setCell ⟨g,1,none⟩ y).setCell ⟨g,2,none⟩ z) N t v:=
 InT.mono (fun b hb=> hb.1) (fun b hb=> by rw[Below.heap_setCell _ _ _ _ hb.2,Below.heap_setCell _ _ _ _ hb.2,Below.heap_setCell _ _ _ _ hb.2]) h
theorem j22(W:World)(N:Nat->Prop)(k n:Int):InT W N (.mk k n []) (.agg #[.int .i64 k,.int .i64 n,.slice none 0 0]):=InT.mk_iff.2 ⟨none,0,rfl,Nat.le_refl _,Nat.zero_le _,.inl rfl⟩
theorem Made.at'{w w':World}{N:Nat->Prop}{e:TypeId}{t:Tr}{v:Value}(h:Made w w' e t v)(hN: ∀b,w.heap.size<=b->N b):InT w' N t v:=InT.mono (fun b hb=> hN b hb.1) (fun _ _=> rfl) (From.made h)
theorem newN{w:World}{N:Nat->Prop}{g n:Nat}(hN: ∀b,w.heap.size<=b->N b)(hw:w.heap.size<=n)(hg:g < n): ∀b,n<=b->N b/\b≠g:=fun b hb=>⟨hN b (by omega),by omega⟩
def AnQ(N:Nat->Prop)(w:World)(r:Tr×Int)(e:Ending)(w':World):Prop:= ∃u,e= .returned (.tuple #[u,.int .i64 r.2])/\InT w' N r.1 u/\Ext w w'
end Go.Proofs.YtbnkbepgmenblaaGreat
