/-
  Lemmas towards the law, 15: Cut, Defs.
-/
import Derived.Test.YtdkamgafpphdjaaGreatUAM
set_option maxHeartbeats 1000000
set_option maxRecDepth 100000
namespace Go.Proofs.YtdkamgafpphdjaaGreat
open Go.RowKit
set_option linter.unusedVariables false
def cutS(c:UInt8):List UInt8->List UInt8->List (List UInt8)
 |pre, []=> [pre]
 |pre,x::r=> if x=c then pre::cutS c [] r else cutS c (pre++ [x]) r
def cutL(c:UInt8)(l:List UInt8):List (List UInt8):=cutS c [] l
theorem j98(c:UInt8): ∀(r pre:List UInt8),∀x∈cutS c pre r,x.length<=pre.length+r.length
 | [],pre,x,h=> by simp[cutS] at h;subst h;simp
 |y::r,pre,x,h=> by
  unfold cutS at h
  split at h
  · rcases List.mem_cons.1 h with rfl|h
    · simp
    · have:=j98 c r [] x h
      simp only[List.length_cons,List.length_nil] at this⊢;omega
  · have:=j98 c r (pre++ [y]) x h
    simp only[List.length_cons,List.length_append,List.length_nil] at this⊢;omega
theorem infoStr:(Tryz.prog.info? 9).map (fun i=>(i.zero,i.size,i.bytes))=some (some (.string ⟨#[]⟩),1,16):=by kernel_rfl
def strs(xs:List (List UInt8)):List Value:=xs.map fun l=> .string (ofL l)
theorem y127(xs:List (List UInt8))(l:List UInt8):strs (xs++ [l])=strs xs++ [.string (ofL l)]:=by simp[strs]
theorem q166(s:ByteArray)(c:UInt8)(cc:Nat)(hcc:c.toNat=cc)(w:World)(hs:s.size<=1000000000):
 Calls Tryz.prog 178 #[.string s,.int .u8 (cc:Int)] w fun e w'=> ∃v,e= .returned v/\w'.ownsRow w.heap.size 9 1 v (cutL c s.data.toList).length (strs (cutL c s.data.toList))/\Ext w w':=by
 obtain⟨i1,hi',hy0,hy1,hy2⟩:=info_parts infoStr;have hx0:=(xr w).alloc (.cells #[] 9);have hb0:=heap_alloc_new w (.cells #[] 9);have hln:s.data.toList.length=s.size:=Array.length_toList;obtain⟨l,hl⟩: ∃l,s.data.toList=l:=⟨_,rfl⟩;rw[hl] at hln⊢;obtain⟨R,hR⟩: ∃R,cutL c l=R:=⟨_,rfl⟩;rw[hR];have HL:=hdq hl;have HR:=hdq hR;clear hl hR;go_enter Tryz.func178,Tryz.ntmps178;go_wp2_with fail;generalize hw0:w.alloc _=w0 at hx0 hb0⊢;clear hw0
 go_loopw [5,6,7] (fun o f i wr=> ∃(p q:Nat) (xs:List (List UInt8)),f= .int .i64 p/\i= .int .i64 q/\p<=q/\q<=s.size+1/\wr.ownsRow w.heap.size 9 1 o xs.length (strs xs)/\xs.length<=q/\(q<=s.size->xs++cutS c ((l.drop p).take (q - p)) (l.drop q)=R)/\(q=s.size+1->xs=R)/\Ext w wr) (fun _ _ i _=> s.size+2 -(intOf i).toNat)
 case atStart=> exact⟨0,0, [],rfl,rfl,Nat.le_refl _,by omega,⟨rfl,.inr ⟨_,0,#[],rfl,Nat.le_refl _,hb0,Nat.le_refl _,Nat.zero_le _,rfl,rfl⟩⟩,Nat.le_refl _,fun _=> by simpa[cutL] using HR.out,fun h=> by omega,hx0⟩
 case round=>
  obtain⟨p,q,xs,rfl,rfl,hpq,hq,hG,hxq,h1,h2,hx⟩:=hrel;have H1:=hdq h1;have H2:=hdq h2;clear h1 h2;have hsz:=hx.size;by_cases hq1:q=s.size+1
  · have he:=H2.out hq1
    subst he;have hqd:decide ((q:Int)<=(s.size:Int))=false:=decide_eq_false (by omega);go_wp2_with fail;go_ret;exact⟨_,rfl,hG,hx⟩
  · have hqd:decide ((q:Int)<=(s.size:Int))=true:=decide_eq_true (by omega)
    have hqs:q<=s.size:=by omega
    have hsl:=slc (s:=s) (a:=p) (e:=q) (j:=(q:Int)) hpq hqs rfl (q91 s p q);rw[HL.out] at hsl;obtain⟨pc,hpc⟩: ∃x,(l.drop p).take (q - p)=x:=⟨_,rfl⟩;rw[hpc] at hsl;have hown:(wr.alloc (.cells #[.string (ofL pc)] 9)).ownsRow w.heap.size 9 1 _ xs.length (strs xs):=World.ownsRow.alloc hG _;have HPC:=hdq hpc;clear hpc;by_cases hqe:q=s.size
    · have hb:((q:Int)==(s.size:Int))=true:=by simp[hqe]
      have hxs:xs++ [pc]=R:=by
       have:=H1.out hqs;rw[HPC.out,List.drop_of_length_le (by omega)] at this;exact this
      have HXS:=hdq hxs;have HQE:=hdq hqe;clear hxs hqe;go_wp2_with (at_builtin;refine q43 _ rfl (.tmp 26) (.tmp 31) 103 rfl w.heap.size 9 9 i1 (.string ⟨#[]⟩) 16 Tryz.underlying103 hi' hy0 hy1 hy2 (by decide) rfl (y:= .string (ofL pc)) rfl rfl hown rfl (heap_alloc_new wr _) (by omega) (by simp;omega) ?_)
      intro v' w6 hO6 hg6 hL6;have hx6:Ext w w6:=(hx.alloc _).grown hg6 (fun k hk=>(hG.lt k hk).1);have hO7:w6.ownsRow w.heap.size 9 1 v' (xs++ [pc]).length (strs (xs++ [pc])):=by rw[y127];simpa using hO6
      clear hO6 hL6 hown hg6;go_wp2_with fail
      go_roundw
      case rel=> exact⟨q+1,q+1,xs++ [pc],by go_num,by go_num,Nat.le_refl _,by omega,hO7,by simp;omega,fun h=> by have:=HQE.out;omega,fun _=> HXS.out,hx6⟩
      case measure=> simp[intOf];omega
    · have hlt:q < s.size:=by omega
      have hb:((q:Int)==(s.size:Int))=false:=by rw[beq_eq_false_iff_ne];omega
      obtain⟨x,hx1⟩: ∃x,s[q]=x:=⟨_,rfl⟩;have hat:l.drop q=x::l.drop (q+1):=by
       have hq':q < l.length:=by omega
       rw[List.drop_eq_getElem_cons hq'];have h9:=q69 s hlt;rw[HL.out,List.getElem?_eq_getElem hq',hx1] at h9;rw[Option.some.inj h9]
      have HAT:=hdq hat;clear hat;by_cases hxc:x=c
      · have hbb:((x.toNat:Int)==(cc:Int))=true:=by rw[hxc,hcc];simp
        have hxs:xs++ [pc]++cutS c [] (l.drop (q+1))=R:=by
         have:=H1.out hqs;rw[HPC.out,HAT.out] at this;unfold cutS at this;rw[if_pos hxc] at this;rw[<-this];simp
        have HXS:=hdq hxs;clear hxs hxc;go_wp2_with (at_builtin;refine q43 _ rfl (.tmp 26) (.tmp 31) 103 rfl w.heap.size 9 9 i1 (.string ⟨#[]⟩) 16 Tryz.underlying103 hi' hy0 hy1 hy2 (by decide) rfl (y:= .string (ofL pc)) rfl rfl hown rfl (heap_alloc_new wr _) (by omega) (by simp;omega) ?_)
        intro v' w6 hO6 hg6 hL6;have hx6:Ext w w6:=(hx.alloc _).grown hg6 (fun k hk=>(hG.lt k hk).1);have hO7:w6.ownsRow w.heap.size 9 1 v' (xs++ [pc]).length (strs (xs++ [pc])):=by rw[y127];simpa using hO6
        clear hO6 hL6 hown hg6;go_wp2_with fail
        go_roundw
        case rel=> exact⟨q+1,q+1,xs++ [pc],by go_num,by go_num,Nat.le_refl _,by omega,hO7,by simp;omega,fun h=> by rw[Nat.sub_self,List.take_zero];exact HXS.out,fun h=> by omega,hx6⟩
        case measure=> simp[intOf];omega
      · have hbb:((x.toNat:Int)==(cc:Int))=false:=by
         rw[beq_eq_false_iff_ne];intro h;exact hxc (UInt8.toNat_inj.1 (by omega))
        have hxs:xs++cutS c ((l.drop p).take (q+1 - p)) (l.drop (q+1))=R:=by
         have:=H1.out hqs;rw[HAT.out] at this;unfold cutS at this;rw[if_neg hxc] at this;rw[<-this]
         congr 2
         rw[show q+1 - p=(q - p)+1 by omega,List.take_add_one]
         congr 1
         rw[List.getElem?_drop,show p+(q - p)=q by omega];have h9:=q69 s hlt;rw[HL.out,hx1] at h9;rw[h9]
         rfl
        have HXS:=hdq hxs;clear hxs hxc hown hsl;go_wp2_with fail
        go_roundw
        case rel=> exact⟨p,q+1,xs,rfl,by go_num,by omega,by omega,hG,by omega,fun h=> HXS.out,fun h=> by omega,hx⟩
        case measure=> simp[intOf];omega
theorem y16.getD{w w':World}{A:Option Addr}{ks:List Tr}{j:Nat}(h:y16 w A ks)(he:Ext w w')(hj:j*2+1 < ks.length):
 ∃b o k1 n1 A1 p1 kids1 k2 n2 A2 p2 kids2,A=some ⟨b,o,none⟩/\b < w.heap.size/\Hid (ks[j*2]= .mk k1 n1 kids1)/\Hid (ks[j*2+1]= .mk k2 n2 kids2)/\
  (w'.cell? ⟨b,o+j*6,none⟩=some (.int .i64 k1)/\w'.cell? ⟨b,o+j*6+1,none⟩=some (.int .i64 n1)/\w'.cell? ⟨b,o+j*6+2,none⟩=some (.slice A1 kids1.length p1)/\
  w'.cell? ⟨b,o+j*6+3,none⟩=some (.int .i64 k2)/\w'.cell? ⟨b,o+j*6+4,none⟩=some (.int .i64 n2)/\w'.cell? ⟨b,o+j*6+5,none⟩=some (.slice A2 kids2.length p2))/\
  (kids1.length<=p1/\p1<=maxLen/\y16 w' A1 kids1/\Lies w' (.mk k1 n1 kids1) (.agg #[.int .i64 k1,.int .i64 n1,.slice A1 kids1.length p1])/\Tr.mk k1 n1 kids1∈ks)/\
  (kids2.length<=p2/\p2<=maxLen/\y16 w' A2 kids2/\Lies w' (.mk k2 n2 kids2) (.agg #[.int .i64 k2,.int .i64 n2,.slice A2 kids2.length p2])/\Tr.mk k2 n2 kids2∈ks):=by
 obtain⟨b,o,k1,n1,A1,p1,kids1,rfl,HK1,c0,c1,c2,r1⟩:=h.get (j:=j*2) he (by omega);obtain⟨b',o',k2,n2,A2,p2,kids2,e,HK2,d0,d1,d2,r2⟩:=h.get (j:=j*2+1) he hj;obtain⟨rfl,rfl⟩:b=b'/\o=o':=by cases e;exact⟨rfl,rfl⟩
 rw[show o+j*2*3=o+j*6 by omega] at c0 c1 c2;rw[show o+(j*2+1)*3=o+j*6+3 by omega] at d0 d1 d2;have hb:b < w.heap.size:=by
  rcases h with h|⟨b',o',e,hb,-⟩
  · rw[h] at hj;simp at hj
  · cases e;exact hb
 exact⟨b,o,k1,n1,A1,p1,kids1,k2,n2,A2,p2,kids2,rfl,hb,HK1,HK2,⟨c0,c1,c2,d0,d1,d2⟩,r1,r2⟩
theorem At.of_blk6{w:World}{g:Nat}{x0 x1 x2 x3 x4 x5:Value}{e:TypeId}(hb:w.heap[g]? =some (.cells #[x0,x1,x2,x3,x4,x5] e (0,0))):
 At w (fun w'=> w'.cell? ⟨g,0,none⟩=some x0/\w'.cell? ⟨g,1,none⟩=some x1/\w'.cell? ⟨g,2,none⟩=some x2/\w'.cell? ⟨g,3,none⟩=some x3/\w'.cell? ⟨g,4,none⟩=some x4/\w'.cell? ⟨g,5,none⟩=some x5):=fun _ hx=>
 ⟨hx.cell (y10 hb 0),hx.cell (y10 hb 1),hx.cell (y10 hb 2),hx.cell (y10 hb 3),hx.cell (y10 hb 4),hx.cell (y10 hb 5)⟩
def dvs:List Tr->Nat->Bool
 |t::b::r,i=> valid sigT t &&(valid sigT b &&(decide (mxf t 0<=(i:Int))&&(decide (mxf b 0<=(i:Int))&& dvs r (i+1))))
 |_,_=> true
def dfV(ks:List Tr)(n:Nat):Bool:=dvs ks 0 && decide ((n:Int)<=8)
theorem j30: ∀{ks:List Tr} {i n:Nat},dvs ks i=true->ks.length=n*2-> ∀t∈ks,valid sigT t=true/\mxf t 0<=((i+n:Nat):Int)
 |t::b::r,i,n+1,h,hn,x,hx=> by
  unfold dvs at h;simp only[Bool.and_eq_true,decide_eq_true_eq] at h;rcases List.mem_cons.1 hx with rfl|hx
  · exact⟨h.1,by omega⟩
  · rcases List.mem_cons.1 hx with rfl|hx
    · exact⟨h.2.1,by omega⟩
    · have:=j30 h.2.2.2.2 (n:=n) (by simp at hn;omega) x hx
      exact⟨this.1,by omega⟩
 | [],_,_,_,_,x,hx=> by cases hx
 | [_],_,n,_,hn,_,_=> by simp at hn;omega
 |t::b::r,_,0,_,hn,_,_=> by simp at hn
theorem y134{ks:List Tr}{n:Nat}(h:dfV ks n=true)(hn:ks.length=n*2):n<=8/\ ∀t∈ks,cnt t<=400:=by
 unfold dfV at h;rw[Bool.and_eq_true] at h;have:=of_decide_eq_true h.2;exact⟨by omega,fun t ht=>(j11 (j30 h.1 hn t ht).1).2⟩
theorem q48(ks:List Tr)(n cap:Nat)(w:World)(A:Option Addr)(h:y16 w A ks)(hn:ks.length=n*2)(hl:n<=cap)(hc:cap<=maxLen):
 Calls Tryz.prog 83 #[.slice A n cap] w fun e w'=> e= .returned (.bool (dfV ks n))/\Ext w w':=by
 have hcc:=hc;unfold maxLen at hcc;go_enter Tryz.func83,Tryz.ntmps83;go_wp2_with fail
 go_loopw [7] (fun i wr=> ∃j:Nat,j<=n/\i= .int .i64 j/\dvs ks 0=dvs (ks.drop (j*2)) j/\Ext w wr) (fun i _=> n -(intOf i).toNat)
 case atStart=> exact⟨0,Nat.zero_le _,rfl,rfl,xr _⟩
 case round=>
  obtain⟨j,hj,rfl,heq,hx⟩:=hrel;have HE:=hdq heq;clear heq;by_cases hlt:j < n
  · obtain⟨b,o,k1,n1,A1,p1,kids1,k2,n2,A2,p2,kids2,rfl,hbw,HK1,HK2,⟨c0,c1,c2,c3,c4,c5⟩,⟨l1,m1,hK1,hin1,hmem1⟩,⟨l2,m2,hK2,hin2,hmem2⟩⟩:=h.getD (j:=j) hx (by omega)
    have hst:dvs (ks.drop (j*2)) j=(valid sigT (.mk k1 n1 kids1)&&(valid sigT (.mk k2 n2 kids2)&&(decide (mxf (.mk k1 n1 kids1) 0<=(j:Int))&&(decide (mxf (.mk k2 n2 kids2) 0<=(j:Int))&& dvs (ks.drop ((j+1)*2)) (j+1))))):=by
     rw[List.drop_eq_getElem_cons (i:=j*2) (by omega),List.drop_eq_getElem_cons (i:=j*2+1) (by omega),HK1.out,HK2.out]
     conv=> lhs;unfold dvs
     rw[show j*2+1+1=(j+1)*2 by omega]
    have HT:=hdq hst;clear hst;have hj':(j:Int) <(n:Int):=by omega
    have HM1:=hdq (fun(hv:valid sigT (.mk k1 n1 kids1)=true) W (hW:Ext wr W)=> q65 _ W _ (hin1.ext hW) hv);have HM2:=hdq (fun(hv:valid sigT (.mk k2 n2 kids2)=true) W (hW:Ext wr W)=> q65 _ W _ (hin2.ext hW) hv);have HV1:=hdq (fun W (hW:Ext wr W)=> q17 _ W _ (hin1.ext hW));have HV2:=hdq (fun W (hW:Ext wr W)=> q17 _ W _ (hin2.ext hW));generalize mxf (.mk k1 n1 kids1) 0=x1 at HM1 HT;generalize mxf (.mk k2 n2 kids2) 0=x2 at HM2 HT;generalize valid sigT (.mk k1 n1 kids1)=s1 at HM1 HT HV1;generalize valid sigT (.mk k2 n2 kids2)=s2 at HM2 HT HV2;have hl6:w.heap.size<=wr.heap.size:=hx.size;have end_: ∀w',Ext wr w'->(s1=false\/s2=false\/decide (x1<=(j:Int))=false\/decide (x2<=(j:Int))=false)->Ending.returned (Value.bool false)=Ending.returned (Value.bool (dfV ks n))/\Ext w w':=fun w' he hh=> by
     refine⟨?_,hx.trans he⟩;unfold dfV;rw[HE.out,HT.out];rcases hh with h|h|h|h <;> simp[h]
    have END:=hdq end_;clear end_;go_wp2_with fail;have hE:=(xr wr).alloc (.cells #[.int .i64 k1,.int .i64 n1,.slice A1 kids1.length p1,.int .i64 k2,.int .i64 n2,.slice A2 kids2.length p2] 83);have hb:=heap_alloc_new wr (.cells #[.int .i64 k1,.int .i64 n1,.slice A1 kids1.length p1,.int .i64 k2,.int .i64 n2,.slice A2 kids2.length p2] 83);generalize wr.alloc _=wd at hE hb;have C:=At.of_blk6 hb;clear c0 c1 c2 c3 c4 c5 hb;refine(HV1.out _ hE).mono ?_;rintro e w1 ⟨rfl,e1⟩;obtain⟨d0,d1,d2,d3,d4,d5⟩:=C w1 e1;cases s1 with
    |false=>
     go_wp2_with fail;go_ret;exact END.out _ (hE.trans e1) (.inl (by trivial))
    |true=>
     have HM1':=hdq (HM1.out rfl);clear HM1;go_wp2_with fail;refine(HV2.out _ (hE.trans e1)).mono ?_;rintro e w2 ⟨rfl,e2⟩;have e12:=e1.trans e2;clear d0 d1 d2 d3 d4 d5;obtain⟨d0,d1,d2,d3,d4,d5⟩:=C w2 e12;cases s2 with
     |false=>
      go_wp2_with fail;go_ret;exact END.out _ (hE.trans e12) (.inr (.inl (by trivial)))
     |true=>
      have HM2':=hdq (HM2.out rfl);clear HM2;go_wp2_with fail;refine(HM1'.out _ (hE.trans e12)).mono ?_;rintro e w3 ⟨rfl,e3⟩;have e13:=e12.trans e3;clear d0 d1 d2 d3 d4 d5;obtain⟨d0,d1,d2,d3,d4,d5⟩:=C w3 e13;by_cases h1:x1<=(j:Int)
      · have dd1:decide ((j:Int) < x1)=false:=decide_eq_false (by omega)
        go_wp2_with fail;refine(HM2'.out _ (hE.trans e13)).mono ?_;rintro e w4 ⟨rfl,e4⟩;have e14:=e13.trans e4;by_cases h2:x2<=(j:Int)
        · have dd2:decide ((j:Int) < x2)=false:=decide_eq_false (by omega)
          go_wp2_with fail
          go_roundw
          case rel=> exact⟨j+1,by omega,by go_num,by rw[HE.out,HT.out,decide_eq_true h1,decide_eq_true h2];rfl,hx.trans (hE.trans e14)⟩
          case measure=> simp[intOf];omega
        · have dd2:decide ((j:Int) < x2)=true:=decide_eq_true (by omega)
          go_wp2_with fail;go_ret;exact END.out _ (hE.trans e14) (.inr (.inr (.inr (decide_eq_false (by omega)))))
      · have dd1:decide ((j:Int) < x1)=true:=decide_eq_true (by omega)
        go_wp2_with fail;go_ret;exact END.out _ (hE.trans e13) (.inr (.inr (.inl (decide_eq_false (by omega)))))
  · go_wp2_with fail
    go_ret;exact⟨by unfold dfV;rw[HE.out,List.drop_of_length_le (by omega)];rfl,hx⟩
theorem mxV_way(t b:Tr)(i:Int)(r:Bool):(valid sigT t &&(valid sigT b &&(decide (mxf t 0<=i)&&(decide (mxf b 0<=i)&& r))))=(decide (0<=mxV t)&&(decide (0<=mxV b)&&(decide (mxV t<=i)&&(decide (mxV b<=i)&& r)))):=by
 have h1:=q63 t 0;have h2:=q63 b 0;unfold mxV;cases valid sigT t <;> cases valid sigT b <;> simp[h1,h2]
theorem q31(ks:List Tr)(n cap:Nat)(w:World)(A:Option Addr)(h:y16 w A ks)(hn:ks.length=n*2)(hl:n<=cap)(hc:cap<=maxLen):
 Calls Tryz.prog 79 #[.slice A n cap] w fun e w'=> e= .returned (.bool (dfV ks n))/\Ext w w':=by
 have hcc:=hc;unfold maxLen at hcc;go_enter Tryz.func79,Tryz.ntmps79;go_wp2_with fail
 go_loopw [3] (fun i wr=> ∃j:Nat,j<=n/\i= .int .i64 j/\dvs ks 0=dvs (ks.drop (j*2)) j/\Ext w wr) (fun i _=> n -(intOf i).toNat)
 case atStart=> exact⟨0,Nat.zero_le _,rfl,rfl,xr _⟩
 case round=>
  obtain⟨j,hj,rfl,heq,hx⟩:=hrel;have HE:=hdq heq;clear heq;by_cases hlt:j < n
  · obtain⟨b,o,k1,n1,A1,p1,kids1,k2,n2,A2,p2,kids2,rfl,hbw,HK1,HK2,⟨c0,c1,c2,c3,c4,c5⟩,⟨l1,m1,hK1,hin1,hmem1⟩,⟨l2,m2,hK2,hin2,hmem2⟩⟩:=h.getD (j:=j) hx (by omega)
    have hst:dvs (ks.drop (j*2)) j=(decide (0<=mxV (.mk k1 n1 kids1))&&(decide (0<=mxV (.mk k2 n2 kids2))&&(decide (mxV (.mk k1 n1 kids1)<=(j:Int))&&(decide (mxV (.mk k2 n2 kids2)<=(j:Int))&& dvs (ks.drop ((j+1)*2)) (j+1))))):=by
     rw[<-mxV_way,List.drop_eq_getElem_cons (i:=j*2) (by omega),List.drop_eq_getElem_cons (i:=j*2+1) (by omega),HK1.out,HK2.out]
     conv=> lhs;unfold dvs
     rw[show j*2+1+1=(j+1)*2 by omega]
    have HT:=hdq hst;clear hst;have hj':(j:Int) <(n:Int):=by omega
    have HM1:=hdq (fun W (hW:Ext wr W)=> j34 _ W _ (hin1.ext hW));have HM2:=hdq (fun W (hW:Ext wr W)=> j34 _ W _ (hin2.ext hW));have HC:=hdq (fun w' (he:Ext wr w')=>(show w'.cell? ⟨b,o+j*6,none⟩=some (.int .i64 k1)/\w'.cell? ⟨b,o+j*6+1,none⟩=some (.int .i64 n1)/\w'.cell? ⟨b,o+j*6+2,none⟩=some (.slice A1 kids1.length p1)/\
     w'.cell? ⟨b,o+j*6+3,none⟩=some (.int .i64 k2)/\w'.cell? ⟨b,o+j*6+4,none⟩=some (.int .i64 n2)/\w'.cell? ⟨b,o+j*6+5,none⟩=some (.slice A2 kids2.length p2) from⟨he.cell c0,he.cell c1,he.cell c2,he.cell c3,he.cell c4,he.cell c5⟩))
    generalize mxV (.mk k1 n1 kids1)=x1 at HM1 HT;generalize mxV (.mk k2 n2 kids2)=x2 at HM2 HT;have end_: ∀w',Ext wr w'->(x1 < 0\/x2 < 0\/(j:Int) < x1\/(j:Int) < x2)->Ending.returned (Value.bool false)=Ending.returned (Value.bool (dfV ks n))/\Ext w w':=fun w' he hh=> by
     refine⟨?_,hx.trans he⟩;unfold dfV;rw[HE.out,HT.out];rcases hh with h|h|h|h
     · rw[decide_eq_false (by omega: ¬0<=x1)];simp
     · rw[decide_eq_false (by omega: ¬0<=x2)];simp
     · rw[decide_eq_false (by omega: ¬x1<=(j:Int))];simp
     · rw[decide_eq_false (by omega: ¬x2<=(j:Int))];simp
    have END:=hdq end_;clear end_;go_wp2_with fail;refine(HM1.out _ (xr _)).mono ?_;rintro e w1 ⟨rfl,e1⟩;clear c0 c1 c2 c3 c4 c5;obtain⟨c0,c1,c2,c3,c4,c5⟩:=HC.out w1 e1;by_cases g1:x1 < 0
    · have dd1:decide (x1 < 0)=true:=decide_eq_true g1
      go_wp2_with fail;go_ret;exact END.out _ e1 (.inl g1)
    have dd1:decide (x1 < 0)=false:=decide_eq_false g1;go_wp2_with fail;refine(HM2.out _ e1).mono ?_;rintro e w2 ⟨rfl,e2⟩;have e12:=e1.trans e2;clear c0 c1 c2 c3 c4 c5;obtain⟨c0,c1,c2,c3,c4,c5⟩:=HC.out w2 e12;by_cases g2:x2 < 0
    · have dd2:decide (x2 < 0)=true:=decide_eq_true g2
      go_wp2_with fail;go_ret;exact END.out _ e12 (.inr (.inl g2))
    have dd2:decide (x2 < 0)=false:=decide_eq_false g2;go_wp2_with fail;refine(HM1.out _ e12).mono ?_;rintro e w3 ⟨rfl,e3⟩;have e13:=e12.trans e3;clear c0 c1 c2 c3 c4 c5;obtain⟨c0,c1,c2,c3,c4,c5⟩:=HC.out w3 e13;by_cases g3:(j:Int) < x1
    · have dd3:decide ((j:Int) < x1)=true:=decide_eq_true g3
      go_wp2_with fail;go_ret;exact END.out _ e13 (.inr (.inr (.inl g3)))
    have dd3:decide ((j:Int) < x1)=false:=decide_eq_false g3;go_wp2_with fail;refine(HM2.out _ e13).mono ?_;rintro e w4 ⟨rfl,e4⟩;have e14:=e13.trans e4;by_cases g4:(j:Int) < x2
    · have dd4:decide ((j:Int) < x2)=true:=decide_eq_true g4
      go_wp2_with fail;go_ret;exact END.out _ e14 (.inr (.inr (.inr g4)))
    have dd4:decide ((j:Int) < x2)=false:=decide_eq_false g4;go_wp2_with fail
    go_roundw
    case rel=> exact⟨j+1,by omega,by go_num,by rw[HE.out,HT.out,decide_eq_true (by omega:0<=x1),decide_eq_true (by omega:0<=x2),decide_eq_true (by omega:x1<=(j:Int)),decide_eq_true (by omega:x2<=(j:Int))];rfl,hx.trans e14⟩
    case measure=> simp[intOf];omega
  · go_wp2_with fail
    go_ret;exact⟨by unfold dfV;rw[HE.out,List.drop_of_length_le (by omega)];rfl,hx⟩
end Go.Proofs.YtdkamgafpphdjaaGreat
