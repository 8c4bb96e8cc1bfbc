/-
  Lemmas towards the law, 17: Subst, ReadP, Parse3, DefKit, FmtD, Plc, Keep.
-/
import Derived.Test.YtdkamgafpphdjaaGreatUAO
import Derived.Test.YtdkamgafpphdjaaGreatUAP
import Derived.Deep.RegionHeldLaw
import Derived.Lib.AtoiAll
import Derived.Lib.Strings
set_option maxHeartbeats 4000000
set_option maxRecDepth 100000
namespace Go.Proofs.YtdkamgafpphdjaaGreat
open Go.RowKit
set_option linter.unusedVariables false
attribute [local go_sem ↓] Go.wp_at_zero Go.wp_at_succ
def ldO(t:TypeId)(s:Nat):Op:=Op.load t (.tmp s)
attribute [local go_sem] ldO
theorem j206:(Tryz.prog.info? 25).map (fun i=>(i.zero,i.size,i.bytes))=some (some (.agg #[.int .i64 0,.int .i64 0,.slice none 0 0]),3,40):=by kernel_rfl
theorem y122(y:Int): ∀{k:Int} {ts:List Tr} {i j:Nat} {c:Int} (h:j < ts.length),(q18 y k ts i c)[j]'(by rw[q52];exact h)=shfT y ts[j] (c+und k (i+j))
 |k,t::ts,i,0,c,h=> by simp[q18]
 |k,t::ts,i,j+1,c,h=> by
  simp only[q18,List.getElem_cons_succ];rw[y122 y (j:=j) (by simpa using h),show i+1+j=i+(j+1) by omega]
theorem y16.lt{w:World}{b o j:Nat}{ks:List Tr}(h:y16 w (some ⟨b,o,none⟩) ks)(hj:j < ks.length):b < w.heap.size:=by
 rcases h with h|⟨b',o',e,hb,-⟩
 · rw[h] at hj;simp at hj
 · cases e;exact hb
theorem y75{l:List Tr}{j:Nat}{t:Tr}(h:j < l.length)(e:l[j]=t):l.take j++ [t]=l.take (j+1):=by rw[<-e];exact List.take_append_getElem h
def q207(t:Tr):Prop:= ∀(w:World) (v:Value) (y c d:Int),shape sigT t d=true->Lies w t v->cnt t<=1000->0<=y->y<=1000000->0<=c->c+cnt t<=1000000->
 Calls Tryz.prog 147 #[v,.int .i64 y,.int .i64 c] w fun e w'=> ∃u,e= .returned u/\Made w w' 25 (shfT y t c) u/\Ext w w'
theorem y140: ∀t:Tr,q207 t:=Tr.ind fun k n ks hk=> by
 intro w v y c d hsh hin hcnt hy0 hy1 hc0 hc1;obtain⟨-,hn0,hn1,hsk⟩:=y12 hsh;have hmost:=q68 k;obtain⟨A,cap,rfl,hl,hc,hK⟩:=Lies.mk_iff.1 hin;obtain⟨i0,hi,hz0,hz1,hz2⟩:=info_parts j206;have hcc:=hc;unfold maxLen at hcc;simp only[cnt] at hcnt hc1;have hlc:=j16 ks;obtain⟨b1,d1⟩: ∃b1,(k==1)=b1:=⟨_,rfl⟩;obtain⟨b2,d2⟩: ∃b2,decide (c<=n)=b2:=⟨_,rfl⟩;obtain⟨nn,hnn⟩: ∃nn,nn=if(b1 && b2)=true then n+y else n:=⟨_,rfl⟩
 obtain⟨rs,hrs⟩: ∃rs,rs=q18 y k ks 0 c:=⟨_,rfl⟩;have hres:shfT y (.mk k n ks) c= .mk k nn rs:=by
  rw[hnn,hrs,<-d1,<-d2]
  conv=> lhs;unfold shfT
  simp
 have hrl:rs.length=ks.length:=by rw[hrs,q52]
 have hget: ∀j (h:j < ks.length),rs[j]'(by omega)=shfT y ks[j] (c+und k j):=fun j h=> by
  subst hrs;rw[y122 y h,Nat.zero_add]
 rw[hres];have HGET:=hdq hget;clear hres hrs hget;cases b1 with
 |true=>
  obtain rfl:k=1:=by simpa using d1
  obtain⟨rfl,-,-⟩:=j69 hsh;obtain rfl:rs= []:=List.eq_nil_of_length_eq_zero (by simpa using hrl);cases b2
  all_goals simp only[Bool.and_true,Bool.and_false,if_true,Bool.false_eq_true,if_false] at hnn
  all_goals go_enter Tryz.func147,Tryz.ntmps147
  all_goals go_wp2_with fail
  all_goals refine wp_loop_rounds 1 ?_
  all_goals rw[rounds_succ]
  all_goals go_wp2_with fail
  all_goals exact bodyPost_ret (v:= .agg #[.int .i64 1,.int .i64 nn,.slice none 0 0]) (by simp[results,Tryz.results147,go_sem,hnn]) rfl ⟨_,rfl,Made.leaf _ _ _ _ _,(((xr w).alloc _).alloc _).alloc _⟩
 |false=>
  simp only[Bool.false_and,Bool.false_eq_true,if_false] at hnn;go_enter Tryz.func147,Tryz.ntmps147;go_wp2_with fail;obtain⟨w1,hw1⟩: ∃w1,w1=(w.alloc (.cells #[.int .i64 k,.int .i64 n,.slice A ks.length cap] 25)).alloc (.cells #[.int .i64 0,.int .i64 0,.slice none 0 0] 25):=⟨_,rfl⟩;obtain⟨W,hW⟩: ∃W,W=w1.alloc (.cells #[.int .i64 k,.int .i64 nn,.slice none 0 0] 25):=⟨_,rfl⟩;have hs1:w1.heap.size=w.heap.size+1+1:=by rw[hw1];simp
  have hsW:W.heap.size=w.heap.size+3:=by rw[hW];simp;omega
  have hE1:Ext w w1:=hw1▸((xr w).alloc _).alloc _;have hEW:Ext w1 W:=hW▸(xr w1).alloc _;have hbR:w1.heap[w.heap.size+1]? =some (.cells #[.int .i64 0,.int .i64 0,.slice none 0 0] 25 (0,0)):=by
   rw[hw1];exact(blk2 (xr _)).2.1
  have hbO:W.heap[w.heap.size+1+1]? =some (.cells #[.int .i64 k,.int .i64 nn,.slice none 0 0] 25 (0,0)):=by
   have:=heap_alloc_new w1 (.cells #[.int .i64 k,.int .i64 nn,.slice none 0 0] 25);rw[hs1] at this;rw[hW];exact this
  have hbT:w1.heap[w.heap.size]? =some (.cells #[.int .i64 k,.int .i64 n,.slice A ks.length cap] 25 (0,0)):=by
   rw[hw1];exact(blk2 (xr _)).1
  rw[hnn] at hW;rw[<-hw1,<-hW];clear hW hw1
  go_loopw [8] (fun i wr=> ∃(j:Nat) (v:Value),j<=ks.length/\i= .int .i64 j/\wr.heap[w.heap.size+1+1]? =some (.cells #[.int .i64 k,.int .i64 nn,v] 25 (0,0))/\Grow W wr 25 v (rs.take j)/\Ext w1 wr/\W.heap.size<=wr.heap.size) (fun i _=> ks.length -(intOf i).toNat)
  case atStart=> exact⟨0,_,Nat.zero_le _,rfl,hbO,Grow.nil _ _ _,hEW,Nat.le_refl _⟩
  case round=>
   obtain⟨j,v,hj,rfl,hbv,hG,he,hle⟩:=hrel;by_cases hlt:j < ks.length
   · obtain⟨b,o,k',n',A',cap',kids,rfl,HK,c0,c1,c2,hkl,hkc,hK',hin',hmem⟩:=hK.get (hE1.trans he) hlt
     have htk:=y75 (l:=rs) (j:=j) (by omega) (HGET.out j hlt);rw[HK.out] at htk;have hub:=j44 k j;have hskj:=hsk _ hmem;have hj2:(j:Int) <(ks.length:Int):=by omega
     obtain⟨uu,hu⟩: ∃u,u=und k j:=⟨_,rfl⟩;have HU:=hdq (fun W=> y68 k j W);rw[<-hu] at HU hub htk;have HTK:=hdq htk;have HWR:=hdq (IntWalk.i64_in (c+uu) ⟨by omega,by omega⟩);clear hu htk;have hcm:=y14 hmem;have hlen:(rs.take j).length < 1099511627776:=by rw[List.length_take];omega
     have hlj:(rs.take j).length=j:=by rw[List.length_take];omega
     have HL:=hdq hlj;have hbT2:=he.blk hbT;obtain⟨t0,-,t2,-,-,-⟩:=own3 hbT2;have hj':(j:Int) <(ks.length:Int):=by omega
     go_wp2_with fail;have hle2:=hle;have hG2:=hG;have hbv2:=hbv;have hv:=y10 hbv2 2;have hcells: ∀w',Below W.heap.size wr w'->w'.heap[w.heap.size+1+1]? =some (.cells #[.int .i64 k,.int .i64 nn,v] 25 (0,0)):=fun w' hB=>(hB.block (w.heap.size+1+1) (by omega)).trans hbv2
     have HCells:=hdq hcells;have hEd:Ext wr wr.drew:=(xr wr).drew;have hinD:=hin'.ext hEd;have he2:=he;have hbw:=hK.lt hlt;have HS:=hdq (show∀w',Below (w.heap.size+1) wr w'->w'.cell? ⟨w.heap.size,0,none⟩=some (.int .i64 k)/\w'.cell? ⟨w.heap.size,2,none⟩=some (.slice (some ⟨b,o,none⟩) ks.length cap)/\w'.cell? ⟨b,o+j*3,none⟩=some (.int .i64 k')/\w'.cell? ⟨b,o+j*3+1,none⟩=some (.int .i64 n')/\w'.cell? ⟨b,o+j*3+2,none⟩=some (.slice A' kids.length cap') from fun w' hw'=>
      ⟨(hw'.cell (p:=⟨w.heap.size,0,none⟩) (by show w.heap.size < _;omega)).trans t0,(hw'.cell (p:=⟨w.heap.size,2,none⟩) (by show w.heap.size < _;omega)).trans t2,(hw'.cell (p:=⟨b,o+j*3,none⟩) (by show b < _;omega)).trans c0,(hw'.cell (p:=⟨b,o+j*3+1,none⟩) (by show b < _;omega)).trans c1,(hw'.cell (p:=⟨b,o+j*3+2,none⟩) (by show b < _;omega)).trans c2⟩)
     have hBd:Below (w.heap.size+1) wr wr.drew:=(Below.refl _ _).drew;clear hcells hlj hbv hG he hle hcc;rw[show Op.load 23 (Operand.tmp 35)=ldO 23 35 from rfl]
     go_region_held_law (fun w'=> w'.cell? ⟨w.heap.size,0,none⟩=some (.int .i64 k)/\w'.cell? ⟨w.heap.size,2,none⟩=some (.slice (some ⟨b,o,none⟩) ks.length cap)/\w'.cell? ⟨b,o+j*3,none⟩=some (.int .i64 k')/\w'.cell? ⟨b,o+j*3+1,none⟩=some (.int .i64 n')/\w'.cell? ⟨b,o+j*3+2,none⟩=some (.slice A' kids.length cap'))
      (first|exact HS.out _ ((hBe.setCell (by show _<=w.heap.size+1+1;omega) _)) |exact HS.out _ hBe|exact HS.out _ (hBc.alloc (by omega) _) |exact HS.out _ hBc|exact HS.out _ hBd)
      (first|(go_simp;go_at_call 159;refine(HU.out _).mono ?_;rintro e wu ⟨rfl,rfl⟩) |(go_simp;go_at_call 147;(try rw[HWR.out]);refine(hk _ hmem _ _ y (c+uu) (d - 1) hskj hinD (by omega) hy0 hy1 (by omega) (by omega)).mono ?_;rintro e w4 ⟨u,rfl,hM,h4⟩;obtain⟨a1,a2,a3,a4,a5,rfl⟩:=hM.three';have hv4:=y10 (HCells.out _ ((hEd.trans h4).below hle2)) 2;have hs4:=World.block_lt_of_cell? _ _ hv4;have hBc:Below (w.heap.size+1) wr w4:=((hEd.trans h4).below hle2).mono (by omega)) |(refine y24 _ (by rfl) (.tmp 36) (.tmp 50) _ (by rfl) 25 i0 _ Tryz.underlying23 hi hz0 hz1 hz2 rfl (by rfl) hG2 hle2 (hEd.trans h4) (hM.since (Nat.le_refl _)) ((xr _).alloc _) (by rfl) (heap_alloc_new _ _) hlen ?_;intro v' w5 hG5 hB5;obtain⟨B5,c5,rfl,q1,q2,-⟩:=hG5.made;have hv5:=y10 (HCells.out _ hB5) 2;have hf5:=q12 (HCells.out _ hB5) 2;have hBe:Below (w.heap.size+1) wr w5:=hB5.mono (by omega)))
     all_goals(
      have hE5:Ext w1 w5:=he2.trans' hB5 (by omega);have hs5:=hB5.size;have hb6:=HCells.out _ hB5;rw[List.length_append,List.length_singleton,HL.out,HTK.out] at hG5;have hGs:=fun u=> hG5.after ((q23.refl W.heap.size w5).setCell (p:=⟨w.heap.size+1+1,2,none⟩) (by show w.heap.size+1+1 < W.heap.size;omega) u)
      clear hv4 hs4 hv HCells hM h4 c0 c1 c2 t2 t0;go_wp2_with fail
      go_roundw
      case rel=> exact⟨j+1,_,by omega,by go_num,q11 hb6 2 _,hGs _,hE5.setCell (by show _<=w.heap.size+1+1;omega) _,by simp;omega⟩
      case measure=> simp[intOf];omega)
   · obtain⟨B5,c5,rfl,q1,q2,hMK⟩:=hG.made
     have hjl:j=ks.length:=by omega
     have hrj:rs.take j=rs:=List.take_of_length_le (by omega);obtain⟨r0,r1,r2,-,-,-⟩:=own3 hbv;have hbT2:=he.blk hbT;obtain⟨-,-,t2,-,-,-⟩:=own3 hbT2;have hbR':=he.blk hbR;obtain⟨s0,s1,s2,f0,f1,f2⟩:=own3 hbR';rw[hrj] at q1 r2 hMK;clear hbv;go_wp2_with fail;refine bodyPost_ret (v:= .agg #[.int .i64 k,.int .i64 nn,.slice B5 rs.length c5]) (by simp[results,Tryz.results147,go_sem,s0,s1,s2,hnn,hrl]) rfl ⟨_,rfl, ?_, ?_⟩
     · exact Made.since (Made.after (Made.mk q1 q2 hMK) ((((q23.refl _ _).setCell (by show w.heap.size+1 < _;omega) _).setCell (by show w.heap.size+1 < _;omega) _).setCell (by show w.heap.size+1 < _;omega) _)) (by omega)
     · exact((((hE1.trans he).setCell (by simp) _).setCell (by simp) _).setCell (by simp) _)
end Go.Proofs.YtdkamgafpphdjaaGreat
namespace Go.Proofs.YtdkamgafpphdjaaGreat
set_option linter.unusedVariables false
theorem q172{k:Int}{n:Nat}(h:opsT k=(n:Int)):k=1\/k=2\/k=3\/k=4\/k=5\/k=6\/k=7\/k=8\/k=9\/k=10\/k=11\/k=12\/k=13\/k=14\/k=15\/k=16:=by
 by_cases hk:1<=k/\k<=16
 · omega
 · exfalso
   unfold opsT at h
   repeat rw[if_neg (by omega)] at h
   omega
end Go.Proofs.YtdkamgafpphdjaaGreat
namespace Go.Proofs.YtdkamgafpphdjaaGreat
open Go.RowKit
set_option linter.unusedVariables false
def SerQ(B:Nat)(w:World)(size:Nat)(o:Option (List Tr×Nat))(e:Ending)(w':World):Prop:=
 ∃(ts:List Tr) (A:Option Addr) (cap:Nat) (nx:Int),e= .returned (.tuple #[.slice A ts.length cap,.int .i64 nx])/\ts.length<=cap/\cap<=maxLen/\j18 B w' A ts/\Ext w w'/\(∀x,o=some x->ts=x.1/\nx=x.2/\x.2<=size)/\(o=none->nx= -1)
theorem y191:(Tryz.prog.info? 25).map (fun i=>(i.zero,i.size,i.bytes))=some (some (.agg #[.int .i64 0,.int .i64 0,.slice none 0 0]),3,40):=by kernel_rfl
theorem j216{p:Nat->Option (Tr×Nat)}{l:List UInt8}{last:UInt8}{m a b:Nat}{t:Tr}(h:p a=some (t,b)):ser p l last (m+1) a=if l[b]? =some (if m=0 then last else 44) then(ser p l last m (b+1)).map (fun x=>(t::x.1,x.2)) else none:=by
 conv=> lhs;unfold ser
 rw[h]
theorem y208{p:Nat->Option (Tr×Nat)}{l:List UInt8}{last:UInt8}{m a:Nat}(h:p a=none):ser p l last (m+1) a=none:=by
 conv=> lhs;unfold ser
 rw[h]
theorem j166(d:Nat)(ih:j25 d)(s:ByteArray)(a many:Nat)(last:UInt8)(w:World)(hs:s.size<=1000000000)(ha:a<=s.size+2)(hm:many<=4)(hm1:1<=many):
 Calls Tryz.prog 220 #[.string s,.int .i64 a,.int .i64 d,.int .i64 many,.int .u8 (last.toNat:Int)] w (SerQ w.heap.size w s.size (ser (prs d s.data.toList) s.data.toList last many a)):=by
 have HI:=hdq (fun a W (ha:a<=s.size+2)=> ih s a W hs ha);obtain⟨F,hF⟩: ∃F,F=prs d s.data.toList:=⟨_,rfl⟩;rw[<-hF] at HI⊢;obtain⟨R,hR⟩: ∃R,R=ser F s.data.toList last many a:=⟨_,rfl⟩;rw[<-hR];have HR:=hdq hR;obtain⟨i0,hi,hz0,hz1,hz2⟩:=info_parts y191;obtain⟨q,hq⟩: ∃q,last.toNat=q:=⟨_,rfl⟩;rw[hq];have HLQ:=hdq hq;clear hR ih hF hq;go_enter Tryz.func220,Tryz.ntmps220;go_wp2_with fail;have hx0:=(xr w).alloc (.cells #[] 25);have hb0:=heap_alloc_new w (.cells #[] 25);have hs0:w.heap.size <(w.alloc (.cells #[] 25)).heap.size:=by simp
 generalize World.alloc w _=w1 at hx0 hb0 hs0
 go_loopw [1,12,13] (fun at_ o i wr=> ∃(j a':Nat) (ts:List Tr),j<=many/\at_= .int .i64 a'/\i= .int .i64 j/\a'<=s.size+2/\j20 (· < w.heap.size) w wr 25 o ts/\ts.length=j/\Ext w wr/\w.heap.size < wr.heap.size/\R=(ser F s.data.toList last (many - j) a').map (fun x=>(ts++x.1,x.2))/\(j=many->a'<=s.size)) (fun _ _ i _=> many -(intOf i).toNat)
 case atStart=> exact⟨0,a, [],Nat.zero_le _,rfl,rfl,ha,j20.lit hb0 (Nat.le_refl _),rfl,hx0,hs0,by rw[HR.out];simp,by omega⟩
 case round=>
  obtain⟨j,a',ts,hj,rfl,rfl,ha',hG,htl,hx,hsz,heq,hend⟩:=hrel;have HE:=hdq heq;have HTL:=hdq htl;have htl4:ts.length<=4:=by omega
  clear htl;obtain⟨Bo,co,rfl,hl1,hl2,hKo,-⟩:=hG.lies (fun b hb=> hb);clear heq;by_cases hlt:j < many
  · have hjz:(j:Int) <(many:Int):=by omega
    have HND:=hdq hend;clear hend;go_wp2_with fail;refine(HI.out a' wr ha').mono ?_;rintro e w2 ⟨t,u,nx,rfl,hF,e2,q1,q2⟩;obtain⟨k0,n0,A0,l0,c0,rfl⟩:=hF.three;have hs2:=e2.size;have hxa:=e2.trans ((xr w2).alloc (.cells #[.int .i64 k0,.int .i64 n0,.slice A0 l0 c0] 25));cases hFa:F a' with
    |none=>
     obtain rfl:=q2 hFa;have hRn:R=none:=by
      rw[HE.out,show many - j=(many - j - 1)+1 by omega,y208 hFa]
      rfl
     have HRn:=hdq hRn;clear q1 q2 hRn hFa;go_wp2_with fail;go_ret2;exact⟨[],none,0,-1,rfl,Nat.le_refl _,Nat.zero_le _,.inl rfl,hx.trans hxa,(fun x hx=> by rw[HRn.out] at hx;cases hx),fun _=> rfl⟩
    |some y=>
     obtain⟨t',b⟩:=y;obtain⟨h1,h2,h3⟩:=q1 _ hFa;simp only at h1 h2 h3;subst h1 h2;have hst:=HE.out;rw[show many - j=(many -(j+1))+1 by omega,j216 hFa] at hst;clear q1 q2 hFa;have t0:decide ((b:Int) < 0)=false:=decide_eq_false (by omega);by_cases hlb:b < s.size
     · obtain⟨c,hc⟩: ∃c,s[b]=c:=⟨_,rfl⟩
       rw[q44 hlb hc] at hst;have hbz:(b:Int) <(s.size:Int):=by omega
       have t1:decide ((s.size:Int)<=(b:Int))=false:=decide_eq_false (by omega);obtain⟨p,hp⟩: ∃p,c.toNat=p:=⟨_,rfl⟩;obtain⟨want,hw⟩: ∃want:UInt8,want=if many -(j+1)=0 then last else 44:=⟨_,rfl⟩
       rw[<-hw] at hst;by_cases hcw:c=want
       · rw[if_pos (by rw[hcw])] at hst
         have HST:=hdq hst;have hG2:=hG.ext hxa;have hlitG: ∀o',j20 (· < w.heap.size) w (w2.alloc (.cells #[.int .i64 k0,.int .i64 n0,.slice A0 l0 c0] 25)) 25 o' ts->True:=fun _ _=> trivial
         have hown: ∀g,(Value.slice Bo ts.length co).ownBlock=some g->g < wr.heap.size:=by
          obtain⟨xs,g1,-⟩:=hG;exact fun g hg=>(g1.lt g hg).2
         have HOWN:=hdq hown;have hFx:=(hF.ext ((xr w2).alloc (.cells #[.int .i64 k0,.int .i64 n0,.slice A0 l0 c0] 25))).ext ((xr _).alloc (.cells #[.int .i64 k0,.int .i64 n0,.slice A0 l0 c0] 25));have hGx:=hG2.ext ((xr _).alloc (.cells #[.int .i64 k0,.int .i64 n0,.slice A0 l0 c0] 25));have hbz2:=heap_alloc_new (w2.alloc (.cells #[.int .i64 k0,.int .i64 n0,.slice A0 l0 c0] 25)) (.cells #[.int .i64 k0,.int .i64 n0,.slice A0 l0 c0] 25);simp only[World.size_alloc] at hbz2;have hT:InT ((w2.alloc (.cells #[.int .i64 k0,.int .i64 n0,.slice A0 l0 c0] 25)).alloc (.cells #[.int .i64 k0,.int .i64 n0,.slice A0 l0 c0] 25)) (fun b=> b <((w2.alloc (.cells #[.int .i64 k0,.int .i64 n0,.slice A0 l0 c0] 25)).alloc (.cells #[.int .i64 k0,.int .i64 n0,.slice A0 l0 c0] 25)).heap.size/\(Value.slice Bo ts.length co).ownBlock≠some b/\ ¬(b < w.heap.size)) t (.agg #[.int .i64 k0,.int .i64 n0,.slice A0 l0 c0]):=hFx.mono (fun b hb=>⟨hb.2,fun h=> by have:=HOWN.out b h;omega,by omega⟩) (fun _ _=> rfl);have HT:=hdq hT;have HGX:=hdq hGx;have HW:=hdq hw;clear hst hw hG hG2 hT hFx hF hown hGx hlitG hKo;have hfin:(j+1 < many/\p=44/\((j:Int)+1==(many:Int))=false)\/(many<=j+1/\p=q/\((j:Int)+1==(many:Int))=true):=by
          rcases Nat.lt_or_ge (j+1) many with g|g
          · refine .inl ⟨g, ?_,by rw[beq_eq_false_iff_ne];omega⟩
            have:=hcw;rw[HW.out,if_neg (by omega)] at this;rw[<-hp,this];rfl
          · refine .inr ⟨g, ?_,by rw[beq_iff_eq];omega⟩
            have:=hcw;rw[HW.out,if_pos (by omega)] at this;rw[<-hp,this,HLQ.out]
         clear hcw;rcases hfin with⟨g1,rfl,g3⟩ |⟨g1,rfl,g3⟩
         all_goals(
          have gz:(j:Int)+1 <(many:Int)\/(many:Int)<=(j:Int)+1:=by omega
          have gd:decide ((j:Int)+1 <(many:Int))=decide (j+1 < many):=decide_eq_decide.2 (by omega);clear gz)
         all_goals(
          have h44:((44:Int) !=44)=false:=by decide
          go_wp2_with (at_builtin;refine q37 _ rfl (.tmp 62) (.tmp 64) _ (by rfl) 25 i0 _ Tryz.underlying23 hi hz0 hz1 hz2 rfl (by rfl) (X:=(· < w.heap.size)) (W:=w) (tr:=t) HGX.out (by simp;omega) HT.out (by rfl) hbz2 (by omega) ?_ (fun b hb=> hb))
          intro v' w5 hG5 hB5;obtain⟨B5,c5,rfl,r1,r2,-,-⟩:=hG5.lies (fun b hb=> hb);have hx5:Ext w w5:=Below.trans (hx.trans (hxa.trans ((xr _).alloc (.cells #[.int .i64 k0,.int .i64 n0,.slice A0 l0 c0] 25)))) hB5;have hs5:=hB5.size;have HG5:=hdq hG5;have hs5':w.heap.size < w5.heap.size:=by simp at hs5;omega
          clear hG5 hB5 hs5 hbz2;go_wp2_with fail
          go_roundw
          case rel=> exact⟨j+1,b+1,ts++ [t],by omega,by go_num,by go_num,by omega,HG5.out,by rw[List.length_append,HTL.out];rfl,hx5,hs5',by rw[HST.out,Option.map_map];congr 1;funext x;simp,by omega⟩
          case measure=> simp[intOf];omega)
       · rw[if_neg (by intro h;cases h;exact hcw rfl)] at hst
         have HRn:=hdq (show R=none from by rw[hst];rfl);have hfin:(j+1 < many/\((p:Int) !=44)=true)\/(many<=j+1/\((p:Int) !=(q:Int))=true/\((j:Int)+1==(many:Int))=true):=by
          rcases Nat.lt_or_ge (j+1) many with g|g
          · refine .inl ⟨g, ?_⟩
            rw[bne_iff_ne];intro h;rw[hw,if_neg (by omega)] at hcw;exact hcw (UInt8.toNat_inj.1 (by rw[hp];simp;omega))
          · refine .inr ⟨g, ?_,by rw[beq_iff_eq];omega⟩
            rw[bne_iff_ne];intro h;rw[hw,if_pos (by omega)] at hcw;exact hcw (UInt8.toNat_inj.1 (by rw[hp,HLQ.out];omega))
         clear hst hw hcw hG hKo;rcases hfin with⟨g1,g2⟩ |⟨g1,g2,g3⟩
         all_goals(
          go_wp2_with fail;go_ret2;exact⟨[],none,0,-1,rfl,Nat.le_refl _,Nat.zero_le _,.inl rfl,hx.trans hxa,(fun x hx=> by rw[HRn.out] at hx;cases hx),fun _=> rfl⟩)
     · rw[j40 s (by omega),if_neg (by simp)] at hst
       have HRn:=hdq (show R=none from by rw[hst];rfl);have t1:decide ((s.size:Int)<=(b:Int))=true:=decide_eq_true (by omega);clear hst hG hKo;go_wp2_with fail;go_ret2;exact⟨[],none,0,-1,rfl,Nat.le_refl _,Nat.zero_le _,.inl rfl,hx.trans hxa,(fun x hx=> by rw[HRn.out] at hx;cases hx),fun _=> rfl⟩
  · have hjm:j=many:=by omega
    have hRs:R=some (ts,a'):=by
     rw[HE.out,hjm,Nat.sub_self];simp[ser]
    have HRs:=hdq hRs;have hK2:j18 w.heap.size wr Bo ts:=hKo.mono (fun b hb=>⟨by omega,hb.1⟩) (fun _ _=> rfl);have hE2:=hend hjm;clear hRs hend hKo hG;go_wp2_with fail;go_ret2;refine⟨ts,Bo,co,(a':Int), ?_,hl1,hl2,hK2,hx, ?_, ?_⟩
    · rfl
    · intro x hx
      rw[HRs.out] at hx;cases hx
      exact⟨rfl,rfl,hE2⟩
    · intro hx
      rw[HRs.out] at hx;cases hx
theorem own6{w:World}{g:Nat}{x0 x1 x2 x3 x4 x5:Value}{e:TypeId}(hb:w.heap[g]? =some (.cells #[x0,x1,x2,x3,x4,x5] e (0,0))):
 (w.cell? ⟨g,0,none⟩=some x0/\w.cell? ⟨g,1,none⟩=some x1/\w.cell? ⟨g,2,none⟩=some x2/\w.cell? ⟨g,3,none⟩=some x3/\w.cell? ⟨g,4,none⟩=some x4/\w.cell? ⟨g,5,none⟩=some x5)/\
 w.frozen? ⟨g,0,none⟩=false/\w.frozen? ⟨g,1,none⟩=false/\w.frozen? ⟨g,2,none⟩=false/\w.frozen? ⟨g,3,none⟩=false/\w.frozen? ⟨g,4,none⟩=false/\w.frozen? ⟨g,5,none⟩=false:=
 ⟨⟨y10 hb 0,y10 hb 1,y10 hb 2,y10 hb 3,y10 hb 4,y10 hb 5⟩,q12 hb 0,q12 hb 1,q12 hb 2,q12 hb 3,q12 hb 4,q12 hb 5⟩
def j123:List Tr->List UInt8
 |t::b::r=>(((fmtL t++ [61])++fmtL b)++ [10])++j123 r
 |_=> []
def q137(ks:List Tr)(n:Nat):List UInt8:=if dfV ks n=true then j123 ks else []
theorem q158{ks:List Tr}{j:Nat}(h:j*2+1 < ks.length):j123 (ks.drop (j*2))=(((fmtL (ks[j*2]'(by omega))++ [61])++fmtL (ks[j*2+1]'h))++ [10])++j123 (ks.drop ((j+1)*2)):=by
 rw[List.drop_eq_getElem_cons (i:=j*2) (by omega),List.drop_eq_getElem_cons (i:=j*2+1) h,show j*2+1+1=(j+1)*2 by omega]
 rfl
theorem y132{ks:List Tr}{n:Nat}(h:dfV ks n=true)(hn:ks.length=n*2):n<=8/\ ∀t∈ks,valid sigT t=true:=by
 have h1:=y134 h hn;unfold dfV at h;simp only[Bool.and_eq_true] at h;exact⟨h1.1,fun t ht=>(j30 h.1 hn t ht).1⟩
theorem j77(ks:List Tr)(n cap:Nat)(w:World)(A:Option Addr)(h:y16 w A ks)(hn:ks.length=n*2)(hl:n<=cap)(hc:cap<=maxLen):
 Calls Tryz.prog 180 #[.slice A n cap] w fun e w'=> e= .returned (.string (ofL (q137 ks n)))/\Ext w w':=by
 have hcc:=hc;unfold maxLen at hcc;obtain⟨R,hR⟩: ∃R,q137 ks n=R:=⟨_,rfl⟩;rw[hR];have HR:=hdq hR;clear hR;go_enter Tryz.func180,Tryz.ntmps180;go_wp2_with fail;refine(q31 ks n cap w A h hn hl hc).mono ?_;rintro e w1 ⟨rfl,e1⟩;obtain⟨z,hz⟩: ∃z,dfV ks n=z:=⟨_,rfl⟩;rw[hz];cases z with
 |false=>
  have hr:R= []:=by rw[<-HR.out];unfold q137;rw[hz];rfl
  have HRR:=hdq hr;clear hz hr;go_wp2_with fail;go_ret;exact⟨by rw[HRR.out];rfl,e1⟩
 |true=>
  have hr:j123 ks=R:=by rw[<-HR.out];unfold q137;rw[hz];rfl
  obtain⟨hn8,hv⟩:=y132 hz hn;have HRR:=hdq hr;have HV:=hdq hv;clear hz hr hv;have h1:=h.ext e1;go_wp2_with fail
  go_loopw [3,4] (fun o i wr=> ∃(j:Nat) (y:List UInt8),j<=n/\i= .int .i64 j/\o= .string (ofL y)/\y.length<=j*4002/\y++j123 (ks.drop (j*2))=R/\Ext w wr) (fun _ i _=> n -(intOf i).toNat)
  case atStart=> exact⟨0, [],Nat.zero_le _,rfl,rfl,Nat.zero_le _,by simpa using HRR.out,e1⟩
  case round=>
   obtain⟨j,y,hj,rfl,rfl,hyl,hy,hx⟩:=hrel;have HY:=hdq hy;clear hy;by_cases hlt:j < n
   · have hjz:(j:Int) <(n:Int):=by omega
     obtain⟨b,o,k1,n1,A1,p1,kids1,k2,n2,A2,p2,kids2,rfl,hbw,HK1,HK2,⟨d0,d1,d2,d3,d4,d5⟩,⟨l1,m1,hK1,hin1,hmem1⟩,⟨l2,m2,hK2,hin2,hmem2⟩⟩:=h.getD (j:=j) hx (by omega);have hst:=q158 (ks:=ks) (j:=j) (by omega);rw[HK1.out,HK2.out] at hst;have v1:=HV.out _ hmem1;have v2:=HV.out _ hmem2;have c1:=(j11 v1);have c2:=(j11 v2);have HT1:=hdq (fun W (hW:Ext wr W)=> q86 (.mk k1 n1 kids1) W _ 30 c1.1 (by omega) (hin1.ext hW));have HT2:=hdq (fun W (hW:Ext wr W)=> q86 (.mk k2 n2 kids2) W _ 30 c2.1 (by omega) (hin2.ext hW));have q1:=y23 (.mk k1 n1 kids1);have q2:=y23 (.mk k2 n2 kids2);obtain⟨x1,hx1⟩: ∃x,fmtL (.mk k1 n1 kids1)=x:=⟨_,rfl⟩;obtain⟨x2,hx2⟩: ∃x,fmtL (.mk k2 n2 kids2)=x:=⟨_,rfl⟩;rw[hx1,hx2] at hst;rw[hx1] at HT1 q1;rw[hx2] at HT2 q2;have hy':(((y++x1)++ [61])++x2++ [10])++j123 (ks.drop ((j+1)*2))=R:=by
      rw[<-HY.out,hst];simp
     have HY2:=hdq hy';have z0:=y31 (x:=y) (n:=40000) (by omega);have z1:=y31 (x:=x1) (n:=2000) (by omega);have z2:=y31 (x:=x2) (n:=2000) (by omega);have hl1:x1.length<=2000:=by omega
     have hl2:x2.length<=2000:=by omega
     have g1: ¬(9223372036854775807 <(ofL y).size+(ofL x1).size):=by omega
     have g2: ¬(9223372036854775807 <(ofL y).size+(ofL x1).size+1):=by omega
     have g3: ¬(9223372036854775807 <(ofL y).size+(ofL x1).size+1+(ofL x2).size):=by omega
     have g4: ¬(9223372036854775807 <(ofL y).size+(ofL x1).size+1+(ofL x2).size+1):=by omega
     clear hst hy' q1 q2 v1 v2 c1 c2 hx1 hx2;go_wp2_with fail;have HS:=hdq (show∀w',Ext wr w'->w'.cell? ⟨b,o+j*6,none⟩=some (.int .i64 k1)/\w'.cell? ⟨b,o+j*6+1,none⟩=some (.int .i64 n1)/\w'.cell? ⟨b,o+j*6+2,none⟩=some (.slice A1 kids1.length p1)/\w'.cell? ⟨b,o+j*6+3,none⟩=some (.int .i64 k2)/\w'.cell? ⟨b,o+j*6+3+1,none⟩=some (.int .i64 n2)/\w'.cell? ⟨b,o+j*6+3+2,none⟩=some (.slice A2 kids2.length p2) from fun w' hw'=>⟨hw'.cell d0,hw'.cell d1,hw'.cell d2,hw'.cell d3,hw'.cell d4,hw'.cell d5⟩)
     go_region_held3 (fun w'=> w'.cell? ⟨b,o+j*6,none⟩=some (.int .i64 k1)/\w'.cell? ⟨b,o+j*6+1,none⟩=some (.int .i64 n1)/\w'.cell? ⟨b,o+j*6+2,none⟩=some (.slice A1 kids1.length p1)/\w'.cell? ⟨b,o+j*6+3,none⟩=some (.int .i64 k2)/\w'.cell? ⟨b,o+j*6+3+1,none⟩=some (.int .i64 n2)/\w'.cell? ⟨b,o+j*6+3+2,none⟩=some (.slice A2 kids2.length p2))
      (first|exact HS.out _ ((xr wr).drew.trans (e2.trans e3)) |exact HS.out _ ((xr wr).drew.trans e2) |exact HS.out _ (xr wr).drew)
      (first|(go_at_call 197;(with_reducible refine(HT1.out _ (xr wr).drew).mono ?_);rintro e w2 ⟨rfl,e2⟩) |(go_at_call 197;refine(HT2.out _ ((xr wr).drew.trans e2)).mono ?_;rintro e w3 ⟨rfl,e3⟩))
     clear d0 d1 d2 d3 d4 d5 HS;go_wp2_with fail
     go_roundw
     case rel=> exact⟨j+1,((y++x1)++ [61])++x2++ [10],by omega,by go_num,by simp only[<-q14];rfl,by simp;omega,HY2.out,hx.trans ((xr wr).drew.trans (e2.trans e3))⟩
     case measure=> simp[intOf];omega
   · have hyr:y=R:=by
      rw[<-HY.out,List.drop_of_length_le (by omega)];simp[j123]
     have HYR:=hdq hyr;clear hyr;have hjn:j=n:=by omega
     subst hjn;go_wp2_with fail;go_ret;exact⟨by rw[HYR.out];rfl,hx⟩
end Go.Proofs.YtdkamgafpphdjaaGreat
namespace Go.Proofs.YtdkamgafpphdjaaGreat
set_option linter.unusedVariables false
mutual
def cntP(p:Tr->Bool):Tr->Nat
 | .mk k n ks=>(if p (.mk k n ks)=true then 1 else 0)+j181 p ks
def j181(p:Tr->Bool):List Tr->Nat
 | []=> 0
 |t::ts=> cntP p t+j181 p ts
end
mutual
theorem cntP_le(p:Tr->Bool): ∀t:Tr,cntP p t<=cnt t
 | .mk k n ks=> by
  rw[cntP,cnt];have:=y144 p ks
  split <;> omega
theorem y144(p:Tr->Bool): ∀ks:List Tr,j181 p ks<=cnts ks
 | []=> by rw[j181,cnts];exact Nat.le_refl _
 |t::ts=> by
  rw[j181,cnts];have:=cntP_le p t;have:=y144 p ts;omega
end
def j158(t:Tr):Bool:=rdxT t !=0
def atT:Tr->List Int->Option Tr
 |t, []=> some t
 | .mk _ _ ks,i::r=> if 0<=i/\i < ks.length then atT (kd ks i.toNat) r else none
theorem j173(t:Tr)(ts:List Tr)(i:Nat):kd (t::ts) (i+1)=kd ts i:=rfl
theorem j74{ks:List Tr}{i:Nat}(h:i < ks.length):kd ks i∈ks:=by
 unfold kd;rw[List.getD_eq_getElem?_getD,List.getElem?_eq_getElem h];exact List.getElem_mem h
theorem j121{g:Sig}: ∀(a:List Int) (t u:Tr) (d:Int),shape g t d=true->atT t a=some u->shape g u (d - a.length)=true
 | [],t,u,d,h,e=> by
  have e:t=u:=by cases t;simpa[atT] using e
  subst e
  simpa using h
 |i::a,.mk k n ks,u,d,h,e=> by
  rw[atT] at e
  split at e
  · rename_i hi
    have h1:=(j31 h).2.2.2 (kd ks i.toNat) (j74 (by omega));have:=j121 a _ u (d - 1) h1 e;rw[List.length_cons,show d -((a.length+1:Nat):Int)=d - 1 - a.length by omega];exact this
  · cases e
theorem q107{g:Sig}{t:Tr}{d:Int}(h:shape g t d=true):1<=d:=by
 obtain⟨k,n,ks⟩:=t;simp only[shape,Bool.and_eq_true,decide_eq_true_eq] at h;exact h.1
mutual
def outT:Tr->Option (List Int)
 | .mk k n ks=> if rdx k ks=0 then j47 0 ks else some []
def j47:Nat->List Tr->Option (List Int)
 |_, []=> none
 |i,t::ts=> match outT t with
  |some p=> some ((i:Int)::p)
  |none=> j47 (i+1) ts
end
mutual
theorem j116: ∀t:Tr,(outT t).isSome= !nrm t
 | .mk k n ks=> by
  rw[outT,nrm];by_cases h:rdx k ks=0
  · rw[if_pos h,y125 ks 0]
    simp[h]
  · rw[if_neg h]
    simp[h]
theorem y125: ∀(ks:List Tr) (i:Nat),(j47 i ks).isSome= !nrms ks
 | [],i=> by rw[j47,nrms];rfl
 |t::ts,i=> by
  have h:=j116 t;rw[j47,nrms];cases e:outT t with
  |some p=> rw[e] at h;simp at h;simp[h]
  |none=> rw[e] at h;simp at h;simp[h,y125 ts (i+1)]
end
theorem y111: ∀(t:Tr) (d:Int),shape sigT t d=true-> ∀p,outT t=some p->(p.length:Int)<=d:=Tr.ind fun k n ks hk=> by
 intro d h p e;have hd:=q107 h;rw[outT] at e
 split at e
 · have key: ∀(i:Nat) (ts:List Tr),(∀t∈ts,t∈ks)->j47 i ts=some p->(p.length:Int)<=d:=by
    intro i ts
    induction ts generalizing i with
    |nil=> intro _ h;rw[j47] at h;cases h
    |cons t ts ih=>
     intro hm h1;rw[j47] at h1;cases e2:outT t with
     |some q=>
      rw[e2] at h1;simp only[Option.some.injEq] at h1;subst h1;have:=hk t (hm t (by simp)) (d - 1) ((j31 h).2.2.2 t (hm t (by simp))) q e2;simp only[List.length_cons];omega
     |none=>
      rw[e2] at h1;exact ih (i+1) (fun t ht=> hm t (by simp[ht])) h1
   exact key 0 ks (fun _ h=> h) e
 · simp only[Option.some.injEq] at e
   subst e;simp
   omega
end Go.Proofs.YtdkamgafpphdjaaGreat
namespace Go.Proofs.YtdkamgafpphdjaaGreat
open Go.RowKit
set_option linter.unusedVariables false
theorem InK.bound{w:World}{S:Nat->Prop}{A:Option Addr}{ks:List Tr}(h:InK w S A ks):InK w (fun b=> S b/\b < w.heap.size) A ks:=by
 rcases h with h|⟨b,o,rfl,hb,hl⟩
 · exact .inl h
 · cases ks with
   |nil=> exact .inl rfl
   |cons t ts=>
    refine .inr ⟨b,o,rfl,⟨hb, ?_⟩,InL.bound hl⟩;unfold InL at hl;obtain⟨⟨v0,v1,v2,h0,-⟩,-⟩:=hl;exact World.block_lt_of_cell? _ _ h0
theorem InT.keep{w W:World}{N:Nat->Prop}{t:Tr}{v:Value}{g:Nat}(h:InT w N t v)(he:Ext w W)(hg:w.heap.size<=g):InT W (fun b=> N b/\b≠g) t v:=
 InT.mono (fun b hb=>⟨hb.1,by omega⟩) (fun b hb=> he.heap b hb.2) h.bound
theorem InK.keep{w W:World}{N:Nat->Prop}{A:Option Addr}{ks:List Tr}{g:Nat}(h:InK w N A ks)(he:Ext w W)(hg:w.heap.size<=g):InK W (fun b=> N b/\b≠g) A ks:=
 InK.mono (fun b hb=>⟨hb.1,by omega⟩) (fun b hb=> he.heap b hb.2) h.bound
theorem InK.later{w w':World}{S:Nat->Prop}{A:Option Addr}{ks:List Tr}(h:InK w S A ks)(he:Ext w w'):InK w' S A ks:=
 InK.mono (fun _ hb=> hb.1) (fun b hb=> he.heap b hb.2) h.bound
theorem InT.lies'{w:World}{N:Nat->Prop}{t:Tr}{v:Value}(h:InT w N t v):Lies w t v:=InT.mono (fun b hb=> hb.2) (fun _ _=> rfl) h.bound
theorem InT.ret{W:World}{N:Nat->Prop}{t:Tr}{v:Value}{g:Nat}(h:InT W (fun b=> N b/\b≠g) t v)(x y z:Value):InT (((W.setCell ⟨g,0,none⟩ x).setCell ⟨g,1,none⟩ y).setCell ⟨g,2,none⟩ z) N t v:=
 InT.mono (fun b hb=> hb.1) (fun b hb=> by rw[Below.heap_setCell _ _ _ _ hb.2,Below.heap_setCell _ _ _ _ hb.2,Below.heap_setCell _ _ _ _ hb.2]) h
theorem j19(W:World)(N:Nat->Prop)(k n:Int):InT W N (.mk k n []) (.agg #[.int .i64 k,.int .i64 n,.slice none 0 0]):=InT.mk_iff.2 ⟨none,0,rfl,Nat.le_refl _,Nat.zero_le _,.inl rfl⟩
theorem Made.at'{w w':World}{N:Nat->Prop}{e:TypeId}{t:Tr}{v:Value}(h:Made w w' e t v)(hN: ∀b,w.heap.size<=b->N b):InT w' N t v:=InT.mono (fun b hb=> hN b hb.1) (fun _ _=> rfl) (From.made h)
theorem newN{w:World}{N:Nat->Prop}{g n:Nat}(hN: ∀b,w.heap.size<=b->N b)(hw:w.heap.size<=n)(hg:g < n): ∀b,n<=b->N b/\b≠g:=fun b hb=>⟨hN b (by omega),by omega⟩
def AnQ(N:Nat->Prop)(w:World)(r:Tr×Int)(e:Ending)(w':World):Prop:= ∃u,e= .returned (.tuple #[u,.int .i64 r.2])/\InT w' N r.1 u/\Ext w w'
end Go.Proofs.YtdkamgafpphdjaaGreat
