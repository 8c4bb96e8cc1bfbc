/-
  Lemmas towards the law, 45: InfJ, InfV, InfK, InfL, InfM.
-/
import Derived.Test.YtdkamgafpphdjaaGreatUBQ
import Derived.Test.YtdkamgafpphdjaaGreatUBR
set_option maxHeartbeats 8000000
set_option maxRecDepth 100000
namespace Go.Proofs.YtdkamgafpphdjaaGreat
open Go.RowKit
set_option linter.unusedVariables false
def firstIx (p : Tr → Bool) : List Tr → Nat → Int
  | [], _ => -1
  | t :: ts, j => if p t = true then (j : Int) else firstIx p ts (j + 1)
theorem firstIx_spec (p : Tr → Bool) : ∀ (ts : List Tr) (j : Nat), decide (0 ≤ firstIx p ts j) = ts.any p
  | [], j => by simp [firstIx]
  | t :: ts, j => by
    unfold firstIx
    cases h : p t
    · simp [h, firstIx_spec p ts (j + 1)]
    · simp [h]
theorem j145{k:Int}{m:Nat}(h:opsT k=(m:Int)):(k=1/\m=0)\/(k=2/\m=0)\/(k=3/\m=2)\/(k=4/\m=2)\/(k=5/\m=2)\/(k=6/\m=0)\/(k=7/\m=0)\/(k=8/\m=1)\/(k=9/\m=4)\/(k=10/\m=3)\/(k=11/\m=1)\/(k=12/\m=3)\/(k=13/\m=2)\/(k=14/\m=3)\/(k=15/\m=1)\/(k=16/\m=1):=by
 by_cases hk:1<=k/\k<=16
 · rcases(by omega:k=1\/k=2\/k=3\/k=4\/k=5\/k=6\/k=7\/k=8\/k=9\/k=10\/k=11\/k=12\/k=13\/k=14\/k=15\/k=16) with rfl|rfl|rfl|rfl|rfl|rfl|rfl|rfl|rfl|rfl|rfl|rfl|rfl|rfl|rfl|rfl
   all_goals(simp[opsT] at h⊢;omega)
 · have e:opsT k= -1:=by
    unfold opsT
    repeat rw[if_neg (by omega)]
   omega
theorem q164{wC:World}{p1 p2:Nat}{A:Option Addr}{G:List Tr}{At:Option Addr}{ks:List Tr}{ty:Nat->An}(k n:Int)(ca ct:Nat)(hlt:ks.length<=ct)(hct:ct<=maxLen)(w0:World)(N:Nat->Prop)(hJ:JOk wC w0 N p1 p2 A G At ks ty)(inf:Tr->An)(hI:InfF wC A ca G inf)(hvj:valid sigT (.mk k n ks)=true)(hGv: ∀x∈G,valid sigT x=true)(hca:G.length<=ca)(hcm:ca<=maxLen)(hTV: ∀i s,i < ks.length->ty i=some (s,0)->valid sigT s=true)
 (r:Tr×Int) (h:judV G inf ty k n ks=some r):Calls Tryz.prog 129 #[.agg #[.slice A G.length ca,.int .i64 k,.int .i64 n,.slice At ks.length ct,.func (.func 127) #[] #[.pointer (some ⟨p1,0,none⟩),.pointer (some ⟨p2,0,none⟩)]]] w0 (AnQ N w0 r):=by
 obtain⟨ho,hn0,hn1,-⟩:=y12 (j11 hvj).1;have hkv: ∀i,i < ks.length->valid sigT (kd ks i)=true:=fun i hi=> y38 (t:= .mk k n ks) hvj hi
 unfold judV at h;rcases j145 (show opsT k=(ks.length:Int) from ho) with⟨rfl,hm⟩ |⟨rfl,hm⟩ |⟨rfl,hm⟩ |⟨rfl,hm⟩ |⟨rfl,hm⟩ |⟨rfl,hm⟩ |⟨rfl,hm⟩ |⟨rfl,hm⟩ |⟨rfl,hm⟩ |⟨rfl,hm⟩ |⟨rfl,hm⟩ |⟨rfl,hm⟩ |⟨rfl,hm⟩ |⟨rfl,hm⟩ |⟨rfl,hm⟩ |⟨rfl,hm⟩
 · exact y213 n ca ct hlt hct w0 N hJ hn0 hn1 hGv hca hcm r (by simpa using h)
 · exact y207 n ca ct hlt hct w0 N hJ hn0 hn1 r (by simpa using h)
 · exact y221 n ca ct hlt hct w0 N hJ hm r (by simpa using h)
 · exact y220 n ca ct hlt hct w0 N hJ inf hI hm r (by simpa using h)
 · exact q221 n ca ct hlt hct w0 N hJ hm (hkv 1 (by omega)) r (by simpa using h)
 · exact q209 n ca ct hlt hct w0 N hJ r (by simpa using h)
 · exact y203 n ca ct hlt hct w0 N hJ r (by simpa using h)
 · exact y202 n ca ct hlt hct w0 N hJ hm r (by simpa using h)
 · exact q200 n ca ct hlt hct w0 N hJ hm (hkv 0 (by omega)) r (by simpa using h)
 · exact q171 n ca ct hlt hct w0 N hJ hm r (by simpa using h)
 · exact q175 n ca ct hlt hct w0 N hJ inf hI hm (fun s hs=> hTV 0 s (by omega) hs) r (by simpa using h)
 · exact j191 n ca ct hlt hct w0 N hJ hm r (by simpa using h)
 · exact q199 n ca ct hlt hct w0 N hJ hm r (by simpa using h)
 · exact y188 n ca ct hlt hct w0 N hJ hm (hkv 1 (by omega)) r (by simpa using h)
 · exact j169 n ca ct hlt hct w0 N hJ hm hvj r (by simpa using h)
 · exact j183 n ca ct hlt hct w0 N hJ hm hvj r (by simpa using h)
theorem q53{m:Int}(h0:0<=m)(h3:m<=3):valid sigT (srtT m)=true:=by
 rcases(by omega:m=0\/m=1\/m=2\/m=3) with rfl|rfl|rfl|rfl <;> decide+kernel
theorem q127:valid sigT natT=true:=by decide+kernel
theorem j76{x:An}{s:Tr}(h:frmV x 2=some (s,0)):0<=s.num/\s.num<=3:=by
 obtain⟨hk,-,hv⟩:=y84 h;obtain⟨k,n,ks⟩:=s;obtain⟨-,h1,h2,-⟩:=y12 (j11 hv).1;rw[show k=2 from hk] at h2;exact⟨h1,h2⟩
theorem y20{X:Tr×Int}{u:Tr}(h:some X=some (u,(0:Int)))(hX:X.2=0->valid sigT X.1=true):valid sigT u=true:=by
 have e:X=(u,0):=by simpa using h
 have:=hX (by rw[e])
 rwa [e] at this
theorem y49(X:Tr):(mkV X).2=0->valid sigT (mkV X).1=true:=fun h=> by
 obtain⟨h1,h2⟩:=y86 h;rw[h2];exact h1
theorem y168{G:List Tr}{inf:Tr->An}{ty:Nat->An}{k n:Int}{ks:List Tr}{u:Tr}(hv:valid sigT (.mk k n ks)=true)(h:judV G inf ty k n ks=some (u,0)):valid sigT u=true:=by
 obtain⟨ho,hn0,hn1,-⟩:=y12 (j11 hv).1;have hkv: ∀i,i < ks.length->valid sigT (kd ks i)=true:=fun i hi=> y38 (t:= .mk k n ks) hv hi
 unfold judV at h;rcases j145 (show opsT k=(ks.length:Int) from ho) with⟨rfl,hm⟩ |⟨rfl,hm⟩ |⟨rfl,hm⟩ |⟨rfl,hm⟩ |⟨rfl,hm⟩ |⟨rfl,hm⟩ |⟨rfl,hm⟩ |⟨rfl,hm⟩ |⟨rfl,hm⟩ |⟨rfl,hm⟩ |⟨rfl,hm⟩ |⟨rfl,hm⟩ |⟨rfl,hm⟩ |⟨rfl,hm⟩ |⟨rfl,hm⟩ |⟨rfl,hm⟩
 · have h:some (lkV G n)=some (u,0):=by simpa using h
   refine y20 h fun h0=> ?_
   unfold lkV at h0⊢
   split at h0
   · simp at h0
   · rename_i hh
     rw[if_neg hh];exact y49 _ h0
 · have h:some (if n=3 then(y13,1) else(srtT (n+1),(0:Int)))=some (u,0):=by simpa using h
   refine y20 h fun h0=> ?_
   split at h0
   · simp at h0
   · rename_i hh
     rw[if_neg hh];have:q28 2=3:=rfl;have:n<=q28 2:=hn1;exact q53 (by omega) (by omega)
 · have h:arrV ty=some (u,0):=by simpa using h
   obtain⟨a,h1,h⟩:=j15 h;obtain⟨b,h2,h⟩:=j15 h;have:=j76 h1;have:=j76 h2;refine y20 h fun _=> q53 (by show 0<=max a.num b.num;omega) (by show max a.num b.num<=3;omega)
 · have h:lamV inf ty (kd ks 0)=some (u,0):=by simpa using h
   obtain⟨a,h1,h⟩:=j15 h;obtain⟨b,h2,h⟩:=j15 h;obtain⟨o,h3,h⟩:=j15 h;obtain⟨q,h4,h⟩:=j15 h;obtain rfl:o=u:=by simpa using h
   exact y20 h3 (y49 _)
 · have h:appV ty (kd ks 1)=some (u,0):=by simpa using h
   obtain⟨a,h1,h⟩:=j15 h;obtain⟨s,h2,-,h⟩:=y34 h;exact y20 h (y49 _)
 · have h:some (srtT 0,(0:Int))=some (u,0):=by simpa using h
   exact y20 h fun _=> q53 (by decide) (by decide)
 · have h:some (natT,(0:Int))=some (u,0):=by simpa using h
   exact y20 h fun _=> q127
 · have h:chkV (ty 0) natT (some (natT,0))=some (u,0):=by simpa using h
   obtain⟨s,h2,-,h⟩:=y34 h;exact y20 h fun _=> q127
 · have h:elmV ty (kd ks 0) (kd ks 3)=some (u,0):=by simpa using h
   obtain⟨F,s,c,-,-,-,-,-,-,h⟩:=j137 h;obtain⟨w,-,h⟩:=j15 h;obtain⟨s,-,-,h⟩:=y34 h;obtain⟨w,-,h⟩:=j15 h;obtain⟨s,-,-,h⟩:=y34 h;obtain⟨s,-,-,h⟩:=y34 h;exact y20 h (y49 _)
 · have h:idnV ty (kd ks 0)=some (u,0):=by simpa using h
   obtain⟨a,h1,h⟩:=j15 h;obtain⟨s,-,-,h⟩:=y34 h;obtain⟨s,-,-,h⟩:=y34 h;have:=j76 h1;exact y20 h fun _=> q53 this.1 this.2
 · have h:rflV inf ty (kd ks 0)=some (u,0):=by simpa using h
   obtain⟨a,h1,h⟩:=j15 h;obtain⟨b,h2,h⟩:=j15 h;exact y20 h (y49 _)
 · have h:movV ty (kd ks 0)=some (u,0):=by simpa using h
   obtain⟨a,h1,h⟩:=j15 h;obtain⟨F,s,c,-,-,-,-,-,-,h⟩:=j137 h;obtain⟨w,-,h⟩:=j15 h;obtain⟨s,-,-,h⟩:=y34 h;exact y20 h (y49 _)
 · have h:arrV ty=some (u,0):=by simpa using h
   obtain⟨a,h1,h⟩:=j15 h;obtain⟨b,h2,h⟩:=j15 h;have:=j76 h1;have:=j76 h2;refine y20 h fun _=> q53 (by show 0<=max a.num b.num;omega) (by show max a.num b.num<=3;omega)
 · have h:parV ty (kd ks 0) (kd ks 1)=some (u,0):=by simpa using h
   obtain⟨a,h1,h⟩:=j15 h;obtain⟨b,h2,h⟩:=j15 h;obtain⟨s,-,-,h⟩:=y34 h;obtain⟨w,-,h⟩:=j15 h;obtain⟨s,-,-,h⟩:=y34 h;exact y20 h fun _=> hkv 0 (by omega)
 · have h:prtV ty 15 (kd ks 0)=some (u,0):=by simpa using h
   obtain⟨s,h1,h⟩:=j15 h;rw[if_pos rfl] at h;obtain⟨-,hl,hsv⟩:=y84 h1;have:opsT 13=2:=rfl;exact y20 h fun _=> y38 hsv (by omega)
 · have h:prtV ty 16 (kd ks 0)=some (u,0):=by simpa using h
   obtain⟨s,h1,h⟩:=j15 h;rw[if_neg (by decide)] at h;exact y20 h (y49 _)
theorem y83{f:Nat}{G:List Tr}{t u:Tr}(hv:valid sigT t=true)(h:infV f G t=some (u,0)):valid sigT u=true:=by
 cases f with
 |zero=> cases h
 |succ f=>
  obtain⟨k,n,ks⟩:=t;exact y168 hv h
end Go.Proofs.YtdkamgafpphdjaaGreat
namespace Go.Proofs.YtdkamgafpphdjaaGreat
open Go.RowKit
set_option linter.unusedVariables false
attribute [local go_sem ↓] Go.wp_at_zero Go.wp_at_succ
theorem y190{f:Nat}{G:List Tr}{k n:Int}{ks:List Tr}(hv:valid sigT (.mk k n ks)=true){i:Nat}{s:Tr}(hi:i < ks.length)(h:tyV (infV f) G k ks i=some (s,0)):valid sigT s=true:=by
 have hk:valid sigT (kd ks i)=true:=y38 (t:= .mk k n ks) hv hi;unfold tyV at h
 split at h
 · exact y83 hk h
 · split at h
   · simp at h
   · exact y83 hk h
def OpQ(w0:World)(N:Nat->Prop)(G:List Tr)(k:Int)(ks:List Tr)(i:Nat)(e:Ending)(w':World):Prop:=
 ∃A' c' H c,e= .returned (.tuple #[.slice A' (H:List Tr).length c',.int .i64 c])/\Ext w0 w'/\((c=2/\H= []/\und k i≠0/\20<=G.length)\/(c=0/\H.length<=c'/\c'<=maxLen/\InK w' N A' H/\((und k i=0/\H=G)\/(und k i≠0/\G.length < 20/\H=G++ [kd ks 0]))))
theorem q195(G:List Tr)(k n:Int)(ks:List Tr)(w0:World)(N:Nat->Prop)(hN: ∀b,w0.heap.size<=b->N b)(A At:Option Addr)(ca ct:Nat)(hG:InK w0 N A G)(hK:InK w0 N At ks)(hlt:ks.length<=ct)(hct:ct<=maxLen)(hca:G.length<=ca)(hcm:ca<=maxLen)(i:Nat)(hi:i < ks.length):
 Calls Tryz.prog 128 #[.slice A G.length ca,.agg #[.int .i64 k,.int .i64 n,.slice At ks.length ct],.int .i64 i] w0 (OpQ w0 N G k ks i):=by
 have X1:=(xr w0).alloc (.cells #[.int .i64 k,.int .i64 n,.slice At ks.length ct] 25);have B1:=heap_alloc_new w0 (.cells #[.int .i64 k,.int .i64 n,.slice At ks.length ct] 25);obtain⟨w1,hw1⟩: ∃x,x=w0.alloc (.cells #[.int .i64 k,.int .i64 n,.slice At ks.length ct] 25):=⟨_,rfl⟩;rw[<-hw1] at X1 B1;obtain⟨b,o,rfl,hkid⟩:=InK.kid hK (by omega);obtain⟨k1,k2,k3,k4,k5,h0,h1,h2,hT⟩:=hkid 0 (by omega);simp only[Nat.mul_zero,Nat.add_zero] at h0 h1 h2;have HT:=hdq hT;have HG:=hdq hG;have HN:=hdq hN;have HU:=hdq (fun W=> j51 k i W);unfold OpQ;have hp0:(0:Int) <(ks.length:Int):=by omega
 have hq0:0 < ks.length:=by omega
 clear hkid hT hG hK hN;have h0':=X1.cell h0;have h1':=X1.cell h1;have h2':=X1.cell h2;clear h0 h1 h2;obtain⟨z0,z1,z2,-,-,-⟩:=own3 B1;obtain⟨u,hu⟩: ∃u,u=und k i:=⟨_,rfl⟩;rw[<-hu] at HU⊢;clear hu;by_cases h:u=0
 · have t1:(u==0)=true:=by simp[h]
   go_enter Tryz.func128,Tryz.ntmps128;go_wp2_with fail;rw[<-hw1];clear hw1;refine(HU.out w1).mono ?_;rintro e w2 ⟨rfl,rfl⟩;go_wp2_with fail;go_ret2;exact⟨A,ca,G,0,rfl,X1,.inr ⟨rfl,hca,hcm,HG.out.later X1,.inl ⟨h,rfl⟩⟩⟩
 · have t1:(u==0)=false:=by simp[h]
   by_cases hL:20<=G.length
   · go_enter Tryz.func128,Tryz.ntmps128
     go_wp2_with fail;rw[<-hw1];clear hw1;refine(HU.out w1).mono ?_;rintro e w2 ⟨rfl,rfl⟩;go_wp2_with fail;refine(q122 G (kd ks 0) w1 N A ca _ (HT.out.later X1) hL).mono ?_;rintro e w2 ⟨rfl,e2⟩;go_wp2_with fail;go_ret2;exact⟨none,0, [],2,rfl,X1.trans e2,.inl ⟨rfl,rfl,h,hL⟩⟩
   · go_enter Tryz.func128,Tryz.ntmps128
     go_wp2_with fail;rw[<-hw1];clear hw1;refine(HU.out w1).mono ?_;rintro e w2 ⟨rfl,rfl⟩;go_wp2_with fail;refine(q101 G (kd ks 0) w1 N (fun b hb=> HN.out b (by have:=X1.size;omega)) A ca _ (HG.out.later X1) (HT.out.later X1) (by omega)).mono ?_;rintro e w2 ⟨A',c',rfl,hc1,hc2,hK2,e2⟩;go_wp2_with fail;go_ret2;exact⟨A',c',G++ [kd ks 0],0,by simp,X1.trans e2,.inr ⟨rfl,by simpa using hc1,hc2,hK2,.inr ⟨h,by omega,rfl⟩⟩⟩
def InfAll(f:Nat):Prop:= ∀(w0:World) (N:Nat->Prop) (A:Option Addr) (ca:Nat) (G:List Tr) (t:Tr) (v:Value) (r:Tr×Int),(∀b,w0.heap.size<=b->N b)->G.length<=ca->ca<=maxLen->InK w0 N A G->(∀x∈G,valid sigT x=true)->G.length<=20->InT w0 N t v->valid sigT t=true->infV f G t=some r->
 Calls Tryz.prog 64 #[.slice A G.length ca,v] w0 (AnQ N w0 r)
theorem q161(f:Nat)(IH:InfAll f)(wC:World)(p1 p2:Nat)(A At:Option Addr)(ca ct:Nat)(G:List Tr)(k n:Int)(ks:List Tr)(hB1:wC.heap[p1]? =some (.cells #[.slice A G.length ca] 23 (0,0)))(hB2:wC.heap[p2]? =some (.cells #[.int .i64 k,.int .i64 n,.slice At ks.length ct] 25 (0,0)))(hlt:ks.length<=ct)(hct:ct<=maxLen)(hca:G.length<=ca)(hcm:ca<=maxLen)(hGv: ∀x∈G,valid sigT x=true)(hL:G.length<=20)(hvj:valid sigT (.mk k n ks)=true):TyF wC p1 p2 A G At ks (tyV (infV f) G k ks):=by
 intro w0 N hx hN hG hK i hi r hr;have hkv: ∀x∈ks,valid sigT x=true:=fun x hm=> q56 hvj hm
 have HKV:=hdq hkv;have HGV:=hdq hGv;have HIH:=hdq IH;have HN:=hdq hN;have HG:=hdq hG;have HK:=hdq hK;have HR:=hdq hr;obtain⟨b,o,rfl,hkid⟩:=InK.kid hK (by omega);obtain⟨k1,k2,k3,k4,k5,h0,h1,h2,hT⟩:=hkid i hi;rw[Nat.mul_comm 3 i] at h0 h1 h2;have HT:=hdq hT;have bA_0:=hx.blk hB1;have bB_0:=hx.blk hB2;have hpi:(i:Int) <(ks.length:Int):=by omega
 clear hkid hT hG hK hN IH hkv hGv hr hvj hB1 hB2 hx;obtain⟨w1,hw1⟩: ∃x,x=(w0.alloc (.cells #[.int .i64 0,.int .i64 0,.slice none 0 0] 25)):=⟨_,rfl⟩;obtain⟨br_1,s1,e1⟩:=box1 hw1;obtain⟨M,hM⟩: ∃M,M=(fun b=> N b/\b≠w0.heap.size):=⟨_,rfl⟩;have HMN:=hdq (show∀b,w1.heap.size<=b->M b from hM▸newN HN.out e1.size (by omega));have HGM:=hdq (show InK w1 M A G from hM▸HG.out.keep e1 (Nat.le_refl _));have HKM:=hdq (show InK w1 M _ ks from hM▸HK.out.keep e1 (Nat.le_refl _));have HTM:=hdq (show InT w1 M (kd ks i) _ from hM▸HT.out.keep e1 (Nat.le_refl _));have HM:=hdq hM;clear hM;have zA:w0.cell? ⟨p1,0,none⟩=some (.slice A G.length ca):=y10 bA_0 0;have zB0:w0.cell? ⟨p2,0,none⟩=some (.int .i64 k):=y10 bB_0 0;have zB1:w0.cell? ⟨p2,1,none⟩=some (.int .i64 n):=y10 bB_0 1;have zB2:w0.cell? ⟨p2,2,none⟩=some (.slice (some ⟨b,o,none⟩) ks.length ct):=y10 bB_0 2;have lA:=q10 bA_0;have lB:=q10 bB_0;go_enter Tryz.func127,Tryz.ntmps127;go_wp2_with fail;rw[<-hw1];clear hw1;clear zA zB0 zB1 zB2 lA lB;refine(q195 G k n ks w1 M HMN.out A _ ca ct HGM.out HKM.out hlt hct hca hcm i hi).mono ?_;rintro e w2 ⟨A',c',H,c,rfl,e2,hO⟩;have s2:=e2.size;rcases hO with⟨rfl,rfl,hu,h20⟩ |⟨rfl,hc1,hc2,hK2,hH⟩
 · obtain rfl:r=(y13,2):=by
    have:=HR.out;unfold tyV at this;rw[if_neg hu,if_pos h20] at this
    simpa using this.symm
   clear h0 h1 h2;have br_2:=e2.blk br_1;obtain⟨zr0,zr1,zr2,yr0,yr1,yr2⟩:=own3 br_2;have lr:=q10 br_2;have bA_1:=e1.blk bA_0;have bA_2:=e2.blk bA_1;have zA0:=own1 bA_2;have lA:=q10 bA_2;have bB_1:=e1.blk bB_0;have bB_2:=e2.blk bB_1;obtain⟨zB0,zB1,zB2,-⟩:=own3 bB_2;have lB:=q10 bB_2;have X0_1:=e1;have X0_2:=X0_1.trans e2;go_wp2_with fail;refine bodyPost_ret (v:= .tuple #[.agg #[.int .i64 0,.int .i64 0,.slice none 0 0],.int .i64 2]) (by simp[results,Tryz.results127,go_sem,zr0,zr1,zr2]) rfl ⟨_,rfl,j19 _ _ 0 0,(X0_2.set3 (by omega) _ _ _)⟩
 · have HF:Hid (infV f H (kd ks i)=some r/\(∀x∈H,valid sigT x=true)/\H.length<=20):=hdq (by
    have:=HR.out;unfold tyV at this;rcases hH with⟨hu,rfl⟩ |⟨hu,h20,rfl⟩
    · rw[if_pos hu] at this
      exact⟨this,HGV.out,hL⟩
    · rw[if_neg hu,if_neg (by omega)] at this
      refine⟨this,fun x hx=> ?_,by simp;omega⟩;rcases List.mem_append.1 hx with hx|hx
      · exact HGV.out x hx
      · rw[List.mem_singleton.1 hx]
        exact HKV.out _ (j74 (by omega)))
   have HK2:=hdq hK2;clear hH hK2 HR;have X0_1:=e1;have X0_2:=X0_1.trans e2;have h0':=X0_2.cell h0;have h1':=X0_2.cell h1;have h2':=X0_2.cell h2;clear h0 h1 h2;have br_2:=e2.blk br_1;obtain⟨zr0,zr1,zr2,yr0,yr1,yr2⟩:=own3 br_2;have lr:=q10 br_2;have bA_1:=e1.blk bA_0;have bA_2:=e2.blk bA_1;have zA0:=own1 bA_2;have lA:=q10 bA_2;have bB_1:=e1.blk bB_0;have bB_2:=e2.blk bB_1;obtain⟨zB0,zB1,zB2,-⟩:=own3 bB_2;have lB:=q10 bB_2;go_wp2_with fail;clear zr0 zr1 zr2 yr0 yr1 yr2 lr zA0 lA zB0 zB1 zB2 lB;have X1_2:=e2;refine(HIH.out w2 M A' c' H (kd ks i) _ r (fun b hb=> HMN.out b (by have:=X1_2.size;omega)) hc1 hc2 HK2.out HF.out.2.1 HF.out.2.2 (HTM.out.later X1_2) (HKV.out _ (j74 hi)) HF.out.1).mono ?_;rintro e w3 ⟨u,rfl,hT,e3⟩;have s3:=e3.size;obtain⟨⟨q1,q2,q3⟩,d⟩:=r;simp only at hT⊢;obtain⟨a2,b2,A2,l2,c2,rfl⟩:=hT.three;have T2:=hdq hT;clear hT HF h0' h1' h2';have br_3:=e3.blk br_2;obtain⟨zr0,zr1,zr2,yr0,yr1,yr2⟩:=own3 br_3;have lr:=q10 br_3;have bA_3:=e3.blk bA_2;have zA0:=own1 bA_3;have lA:=q10 bA_3;have bB_3:=e3.blk bB_2;obtain⟨zB0,zB1,zB2,-⟩:=own3 bB_3;have lB:=q10 bB_3;have X0_3:=X0_2.trans e3;go_wp2_with fail;refine bodyPost_ret (v:= .tuple #[.agg #[.int .i64 a2,.int .i64 b2,.slice A2 l2 c2],.int .i64 d]) (by simp[results,Tryz.results127,go_sem,zr0,zr1,zr2]) rfl ⟨_,rfl,InT.ret (HM.out▸T2.out) _ _ _,(X0_3.set3 (by omega) _ _ _)⟩
theorem j134: ∀f,InfAll f
 |0=> fun w0 N A ca G t v r hN hca hcm hG hGv hL ht hv hr=> by cases hr
 |f+1=> fun w0 N A ca G t v r hN hca hcm hG hGv hL ht hv hr=> by
  obtain⟨k,n,ks⟩:=t;have HJV:=hdq (show judV G (infV f G) (tyV (infV f) G k ks) k n ks=some r from hr);obtain⟨At,ct,rfl,hlt,hct,hK⟩:=InT.mk_iff.1 ht;have HIH:=hdq (j134 f);have HN:=hdq hN;have HG:=hdq hG;have HK:=hdq hK;have HV:=hdq hv;have HGV:=hdq hGv;clear hN hG hK hv hGv ht hr;obtain⟨w1,hw1⟩: ∃x,x=(((w0.alloc (.cells #[.slice A G.length ca] 23)).alloc (.cells #[.int .i64 k,.int .i64 n,.slice At ks.length ct] 25)).alloc (.cells #[.int .i64 0,.int .i64 0,.slice none 0 0] 25)):=⟨_,rfl⟩;obtain⟨bA_1,bB_1,br_1,s1,e1⟩:=box3 hw1;obtain⟨M,hM⟩: ∃M,M=(fun b=> N b/\b≠w0.heap.size+1+1):=⟨_,rfl⟩;have HMN:=hdq (show∀b,w1.heap.size<=b->M b from hM▸newN HN.out e1.size (by omega));have HGM:=hdq (show InK w1 M A G from hM▸HG.out.keep e1 (by omega));have HKM:=hdq (show InK w1 M At ks from hM▸HK.out.keep e1 (by omega));have HM:=hdq hM;clear hM;have HTF:=hdq (q161 f HIH.out w1 _ _ A At ca ct G k n ks bA_1 bB_1 hlt hct hca hcm HGV.out hL HV.out);have HJ:Hid (JOk w1 w1 M (w0.heap.size) (w0.heap.size+1) A G At ks (tyV (infV f) G k ks)):=hdq ⟨HTF.out,xr _,HMN.out,HGM.out,HKM.out⟩;have HI:Hid (InfF w1 A ca G (infV f G)):=hdq (fun W N' hx hN' hG' t' v' ht' hv' r' hr'=> HIH.out W N' A ca G t' v' r' hN' hca hcm hG' HGV.out hL ht' hv' hr');have HTV:Hid (∀i s,i < ks.length->tyV (infV f) G k ks i=some (s,0)->valid sigT s=true):=hdq (fun i s hi hs=> y190 HV.out hi hs);go_enter Tryz.func64,Tryz.ntmps64;go_wp2_with fail;rw[<-hw1];clear hw1;have zA0:=own1 bA_1;have lA:=q10 bA_1;obtain⟨zB0,zB1,zB2,-⟩:=own3 bB_1;have lB:=q10 bB_1;obtain⟨zr0,zr1,zr2,yr0,yr1,yr2⟩:=own3 br_1;have lr:=q10 br_1;go_wp2_with fail;clear zA0 lA zB0 zB1 zB2 lB zr0 zr1 zr2 yr0 yr1 yr2 lr;refine(q164 k n ca ct hlt hct w1 M HJ.out (infV f G) HI.out HV.out HGV.out hca hcm HTV.out r HJV.out).mono ?_;rintro e w2 ⟨u,rfl,hT,e2⟩;have s2:=e2.size;obtain⟨⟨q1,q2,q3⟩,d⟩:=r;simp only at hT⊢;obtain⟨a2,b2,A2,l2,c2,rfl⟩:=hT.three;have T2:=hdq hT;clear hT HJV;have bA_2:=e2.blk bA_1;have zA0:=own1 bA_2;have lA:=q10 bA_2;have bB_2:=e2.blk bB_1;obtain⟨zB0,zB1,zB2,-⟩:=own3 bB_2;have lB:=q10 bB_2;have br_2:=e2.blk br_1;obtain⟨zr0,zr1,zr2,yr0,yr1,yr2⟩:=own3 br_2;have lr:=q10 br_2;have X0_1:=e1;have X0_2:=X0_1.trans e2;go_wp2_with fail;refine bodyPost_ret (v:= .tuple #[.agg #[.int .i64 a2,.int .i64 b2,.slice A2 l2 c2],.int .i64 d]) (by simp[results,Tryz.results64,go_sem,zr0,zr1,zr2]) rfl ⟨_,rfl,InT.ret (HM.out▸T2.out) _ _ _,(X0_2.set3 (by omega) _ _ _)⟩
abbrev AllN:Nat->Prop:=fun _=> True
theorem InK.all{w:World}{A:Option Addr}{ks:List Tr}(h:y16 w A ks):InK w AllN A ks:=InK.mono (fun _ _=> trivial) (fun _ _=> rfl) h
theorem InT.all{w:World}{t:Tr}{v:Value}(h:Lies w t v):InT w AllN t v:=InT.mono (fun _ _=> trivial) (fun _ _=> rfl) h
theorem j139{f:Nat}{w:World}{A:Option Addr}{ca:Nat}{G:List Tr}(hca:G.length<=ca)(hcm:ca<=maxLen)(hv: ∀x∈G,valid sigT x=true)(hL:G.length<=20):InfF w A ca G (infV f G):=
 fun W N hx hN hG t v ht htv r hr=> j134 f W N A ca G t v r hN hca hcm hG hv hL ht htv hr
theorem j132(f:Nat)(ks:List Tr)(w:World)(A:Option Addr)(cap:Nat)(hK:y16 w A ks)(hl:ks.length<=cap)(hc:cap<=maxLen)(r:Tr×Int)(h:ccV f ks=some r):
 Calls Tryz.prog 124 #[.slice A ks.length cap] w fun e w'=> e= .returned (.int .i64 r.2)/\Ext w w':=by
 have hcc:=hc;unfold maxLen at hcc;by_cases h8:ks.length<=8
 · have d8:decide ((8:Int) <(ks.length:Int))=false:=decide_eq_false (by omega)
   have H3:Hid (∀t∈ks,valid sigT t=false->r.2=3):=hdq fun t ht hv=> by
    have:y88 ks=false:=by
     unfold y88;rw[Bool.and_eq_false_iff];refine .inr ?_;simp only[Bool.not_eq_false',List.any_eq_true];exact⟨t,ht,by simp[hv]⟩
    unfold ccV at h;rw[if_neg (by simp[this])] at h;have e:(y13,(3:Int))=r:=by simpa using h
    rw[<-e]
   have HG:Hid ((∀t∈ks,valid sigT t=true)->ccR f [] ks=some r):=hdq fun hv=> by
    have:y88 ks=true:=by
     unfold y88;rw[Bool.and_eq_true,decide_eq_true_eq];refine⟨h8, ?_⟩;simp only[Bool.not_eq_true',List.any_eq_false];intro t ht;simp[hv t ht]
    unfold ccV at h
    rwa [if_pos this] at h
   clear h;have HK:=hdq hK;go_enter Tryz.func124,Tryz.ntmps124;go_wp2_with fail
   go_loopw [14] (fun i wr=> ∃j:Nat,j<=ks.length/\i= .int .i64 j/\Hid (∀t∈ks.take j,valid sigT t=true)/\Ext w wr) (fun i _=> ks.length -(intOf i).toNat)
   case atStart=> exact⟨0,Nat.zero_le _,rfl,hdq (by simp),xr _⟩
   case round=>
    obtain⟨j,hj,rfl,hval,hx⟩:=hrel;by_cases hlt:j < ks.length
    · obtain⟨b,o,k1,n1,A1,p1,kids1,rfl,HK1,c0,c1,c2,l1,m1,hK1,hin1,hmem1⟩:=hK.get hx hlt
      have hj':(j:Int) <(ks.length:Int):=by omega
      have hE:=hx.alloc (.cells #[.int .i64 k1,.int .i64 n1,.slice A1 kids1.length p1] 25);have hE1:=(xr wr).alloc (.cells #[.int .i64 k1,.int .i64 n1,.slice A1 kids1.length p1] 25);have HV:=hdq (q17 (.mk k1 n1 kids1) _ _ (hin1.ext hE1));go_wp2_with fail;refine HV.out.mono ?_;rintro e w1 ⟨rfl,h1⟩;have hX:=hE.trans h1;obtain⟨vv,hvv⟩: ∃vv,valid sigT (.mk k1 n1 kids1)=vv:=⟨_,rfl⟩;rw[hvv];have HVV:=hdq hvv;clear hvv HV c0 c1 c2;cases vv with
      |false=>
       go_wp2_with fail;go_ret;exact⟨by rw[H3.out _ hmem1 HVV.out];rfl,hX⟩
      |true=>
       have HVL:Hid (∀t∈ks.take (j+1),valid sigT t=true):=hdq fun t ht=> by
        rw[List.take_succ_eq_append_getElem hlt,List.mem_append,List.mem_singleton] at ht;rcases ht with ht|rfl
        · exact hval.out t ht
        · rw[HK1.out];exact HVV.out
       go_wp2_with fail
       go_roundw
       case rel=> exact⟨j+1,by omega,by go_num,HVL,hX⟩
       case measure=> simp[intOf];omega
    · have hv: ∀t∈ks,valid sigT t=true:=by
       have:=hval.out
       rwa [List.take_of_length_le (by omega)] at this
      have HVD:=hdq hv;have HGG:=hdq (HG.out hv);clear hv hval HG H3;go_wp2_with fail
      go_loopw [24] (fun i wr=> ∃j:Nat,j<=ks.length/\i= .int .i64 j/\Hid (ccR f (ks.take j) (ks.drop j)=some r)/\Ext w wr) (fun i _=> ks.length -(intOf i).toNat)
      case atStart=> exact⟨0,Nat.zero_le _,rfl,HGG,hx⟩
      case round=>
       obtain⟨i,hi,rfl,HR,hx2⟩:=hrel;by_cases hlt:i < ks.length
       · obtain⟨b,o,k1,n1,A1,p1,kids1,rfl,HK1,c0,c1,c2,l1,m1,hK1,hin1,hmem1⟩:=hK.get hx2 hlt
         have hi':(i:Int) <(ks.length:Int):=by omega
         have hi0:(0:Int)<=(i:Int):=by omega
         have hic:(i:Int)<=(cap:Int):=by omega
         have hE1:=(xr wr).alloc (.cells #[.int .i64 k1,.int .i64 n1,.slice A1 kids1.length p1] 25);have hB1:=heap_alloc_new wr (.cells #[.int .i64 k1,.int .i64 n1,.slice A1 kids1.length p1] 25);obtain⟨sA,c,h1,h2,h3⟩:=y21 (by
          have:=HR.out;rw[List.drop_eq_getElem_cons hlt,ccR] at this;exact this)
         rw[HK1.out] at h1;have H1:=hdq h1;have H2:=hdq h2;have H3:=hdq h3;have HIN:=hdq hin1;have HLEV:=hdq (fun(W:World) (hW:Ext wr W)=> j93 (wC:=wr) (j139 (f:=f) (w:=wr) (A:=some ⟨b,o,none⟩) (ca:=cap) (G:=ks.take i) (by simp;omega) hc (fun x hm=> HVD.out x (List.mem_of_mem_take hm)) (by simp;omega)) W AllN hW (fun _ _=> trivial) ((InK.all (HK.out.ext (hx2.trans hW))).take i) (.mk k1 n1 kids1) _ (InT.all (HIN.out.ext hW)) (HVD.out _ hmem1) _ H1.out);rw[show(ks.take i).length=i from by simp;omega] at HLEV;clear h1 h2 h3 hin1 hK1 HR;go_wp2_with fail;obtain⟨z0,z1,z2,-,-,-⟩:=own3 hB1;have HKEEP:=hdq (show∀w',Ext (wr.alloc (.cells #[.int .i64 k1,.int .i64 n1,.slice A1 kids1.length p1] 25)) w'->w'.cell? ⟨wr.heap.size,0,none⟩=some (.int .i64 k1)/\w'.cell? ⟨wr.heap.size,1,none⟩=some (.int .i64 n1)/\w'.cell? ⟨wr.heap.size,2,none⟩=some (.slice A1 kids1.length p1) from fun w' h=>⟨h.cell z0,h.cell z1,h.cell z2⟩);obtain⟨q,hq⟩: ∃q,wr.alloc (.cells #[.int .i64 k1,.int .i64 n1,.slice A1 kids1.length p1] 25)=q:=⟨_,rfl⟩;rw[hq] at HKEEP hE1 z0 z1 z2;rw[hq];obtain⟨g,hg⟩: ∃g,wr.heap.size=g:=⟨_,rfl⟩;rw[hg] at HKEEP z0 z1 z2⊢;clear hq hg hB1 c0 c1 c2
         go_region_held3 (fun w'=> w'.cell? ⟨g,0,none⟩=some (.int .i64 k1)/\w'.cell? ⟨g,1,none⟩=some (.int .i64 n1)/\w'.cell? ⟨g,2,none⟩=some (.slice A1 kids1.length p1))
          (first|exact HKEEP.out _ ((xr _).drew) |exact HKEEP.out _ ((xr _).drew.trans e2))
          (first|(go_at_call 87;refine(HLEV.out _ (hE1.trans (xr _).drew)).mono ?_;rintro e w2 ⟨rfl,e2⟩))
         have hX:=(hx2.trans hE1).trans ((xr _).drew.trans e2);clear HKEEP z0 z1 z2 HLEV;by_cases hc0:c=0
         · subst hc0
           have HR2:=hdq (H2.out rfl);rw[<-List.take_succ_eq_append_getElem hlt] at HR2;clear H1 H2 H3;go_wp2_with fail
           go_roundw
           case rel=> exact⟨i+1,by omega,by go_num,HR2,hX⟩
           case measure=> simp[intOf];omega
         · have t1:(c !=0)=true:=by simp[hc0]
           have hr:=H3.out hc0;clear H1 H2 H3 hc0;go_wp2_with fail;go_ret;exact⟨by rw[hr];rfl,hX⟩
       · have hr:r=(y13,0):=by
          have:=HR.out;rw[List.drop_of_length_le (by omega)] at this
          simpa[ccR] using this.symm
         go_wp2_with fail;go_ret;exact⟨by rw[hr];rfl,hx2⟩
 · have d8:decide ((8:Int) <(ks.length:Int))=true:=decide_eq_true (by omega)
   have hr:r.2=3:=by
    unfold ccV y88 at h;rw[decide_eq_false h8,Bool.false_and,if_neg (by simp)] at h;have e:(y13,(3:Int))=r:=by simpa using h
    rw[<-e]
   go_enter Tryz.func124,Tryz.ntmps124;go_wp2_with fail;go_ret;exact⟨by rw[hr];rfl,xr _⟩
theorem ready1(t:Tr)(w:World)(v:Value)(hin:Lies w t v):Calls Tryz.prog 126 #[v] w fun e w'=> e= .returned (.bool (!valid sigT t))/\Ext w w':=by
 have HV:=hdq (fun W (hW:Ext w W)=> q17 t W v (hin.ext hW));obtain⟨k,n,ks⟩:=t;obtain⟨A,cap,rfl,hl,hc,hK⟩:=Lies.mk_iff.1 hin;go_enter Tryz.func126,Tryz.ntmps126;go_wp2_with fail;refine(HV.out _ ((xr w).alloc _)).mono ?_;rintro e w1 ⟨rfl,h1⟩;go_wp2_with fail;go_ret;exact⟨rfl,h1.pre⟩
theorem q205(ks:List Tr)(w:World)(A:Option Addr)(cap:Nat)(hl:ks.length<=cap)(hc:cap<=maxLen)(h:y16 w A ks):
 Calls Tryz.prog 164 #[.slice A ks.length cap,.func (.func 126) #[] #[]] w fun e w'=> e= .returned (.int .i64 (firstIx (fun t=> !valid sigT t) ks 0))/\Ext w w':=by
 obtain⟨p,hp⟩: ∃p:Tr->Bool,p=fun t=> !valid sigT t:=⟨_,rfl⟩
 have hf: ∀t∈ks,∀w' v,Ext w w'->Lies w' t v->Calls Tryz.prog 126 #[v] w' fun e w''=> e= .returned (.bool (p t))/\Ext w' w'':=fun t _ w' v _ hv=> by rw[hp];exact ready1 t w' v hv
 rw[<-hp];clear hp;unfold maxLen at hc;go_enter Tryz.func164,Tryz.ntmps164;go_wp2_with fail
 go_loopw [8] (fun i wr=> ∃j:Nat,j<=ks.length/\i= .int .i64 j/\firstIx p ks 0=firstIx p (ks.drop j) j/\Ext w wr) (fun i _=> ks.length -(intOf i).toNat)
 case atStart=> exact⟨0,Nat.zero_le _,rfl,rfl,xr _⟩
 case round=>
  obtain⟨j,hj,rfl,heq,hx⟩:=hrel;have HE:=hdq heq;clear heq;by_cases hlt:j < ks.length
  · obtain⟨b,o,k,n,A',cap',kids,rfl,HK,c0,c1,c2,hkl,hkc,hK,hin,hmem⟩:=h.get hx hlt
    have hst:firstIx p (ks.drop j) j=if p (.mk k n kids)=true then(j:Int) else firstIx p (ks.drop (j+1)) (j+1):=by
     rw[List.drop_eq_getElem_cons hlt,HK.out];conv=> lhs;unfold firstIx
    have HF:=hdq (hf _ hmem);clear hf;go_wp2_with fail;refine(HF.out wr _ hx hin).mono ?_;rintro e w1 ⟨rfl,h1⟩;generalize p (.mk k n kids)=r at hst;cases r with
    |true=>
     rw[if_pos rfl] at hst;have HT:=hdq hst;clear hst;go_wp2_with fail;go_ret;exact⟨by rw[HE.out,HT.out];rfl,hx.trans h1⟩
    |false=>
     rw[if_neg (by decide)] at hst;have HT:=hdq hst;clear hst;go_wp2_with fail
     go_roundw
     case rel=> exact⟨j+1,by omega,by go_num,by rw[HE.out,HT.out],hx.trans h1⟩
     case measure=> simp[intOf];omega
  · go_wp2_with fail
    go_ret;exact⟨by rw[HE.out,List.drop_of_length_le (by omega)];rfl,hx⟩
theorem j135(ks:List Tr)(w:World)(A:Option Addr)(cap:Nat)(hl:ks.length<=cap)(hc:cap<=maxLen)(h:y16 w A ks):
 Calls Tryz.prog 125 #[.slice A ks.length cap,.func (.func 126) #[] #[]] w fun e w'=> e= .returned (.bool (ks.any (fun t=> !valid sigT t)))/\Ext w w':=by
 have HI:=hdq (q205 ks w A cap hl hc h);have HB:=hdq (firstIx_spec (fun t=> !valid sigT t) ks 0);go_enter Tryz.func125,Tryz.ntmps125;go_wp2_with fail;refine HI.out.mono ?_;rintro e w1 ⟨rfl,h1⟩;go_wp2_with fail;go_ret;exact⟨by rw[<-HB.out];rfl,h1⟩
theorem j124(f:Nat)(ks:List Tr)(w:World)(A:Option Addr)(cap:Nat)(hK:y16 w A ks)(hl:ks.length<=cap)(hc:cap<=maxLen)(l:List Tr)(B:Option Addr)(lc:Nat)(hL:y16 w B l)(hll:l.length<=lc)(hlc:lc<=maxLen)(r:Tr×Int)(h:rdyV f ks l=some r):
 Calls Tryz.prog 63 #[.slice A ks.length cap,.slice B l.length lc] w fun e w'=> e= .returned (.int .i64 r.2)/\Ext w w':=by
 obtain⟨q,hq,hr⟩: ∃q,ccV f ks=some q/\(if l.all (fun t=> valid sigT t)=true then some q else some (y13,3))=some r:=by
  unfold rdyV at h;cases e:ccV f ks with
  |none=> rw[e] at h;cases h
  |some q=> rw[e] at h;exact⟨q,rfl,h⟩
 have HC:=hdq (j132 f ks w A cap hK hl hc q hq);have HD:=hdq (fun W (hW:Ext w W)=> j135 l W B lc hll hlc (hL.ext hW));have hany:(l.any fun t=> !valid sigT t)= !l.all (fun t=> valid sigT t):=by rw[List.not_all_eq_any_not]
 rw[hany] at HD;generalize l.all (fun t=> valid sigT t)=z at hr HD;have HR:=hdq hr;clear hr hany hK hL h hq;go_enter Tryz.func63,Tryz.ntmps63;go_wp2_with fail;refine HC.out.mono ?_;rintro e w1 ⟨rfl,h1⟩;go_wp2_with fail;refine(HD.out _ h1).mono ?_;rintro e w2 ⟨rfl,h2⟩;cases z with
 |true=>
  have hr:=HR.out;rw[if_pos rfl] at hr;obtain rfl:q=r:=by simpa using hr
  clear HR hr;go_wp2_with fail;go_ret;exact⟨rfl,h1.trans h2⟩
 |false=>
  have hr:=HR.out;rw[if_neg (by decide)] at hr;obtain rfl:(y13,(3:Int))=r:=by simpa using hr
  clear HR hr;go_wp2_with fail;go_ret;exact⟨rfl,h1.trans h2⟩
theorem q190{wC:World}{A:Option Addr}{ca:Nat}{G:List Tr}{inf:Tr->An}(hI:InfF wC A ca G inf)(w0:World)(hx:Ext wC w0)(hG:y16 w0 A G)(t:Tr)(v:Value)(ht:Lies w0 t v)(hv:valid sigT t=true)(want:Tr)(vw:Value)(hw:Lies w0 want vw)(c:Int)(h:chkI (inf t) want=some c):Calls Tryz.prog 88 #[.slice A G.length ca,v,vw] w0 fun e w'=> e= .returned (.int .i64 c)/\Ext w0 w':=by
 obtain⟨k,n,ks⟩:=t;obtain⟨At,ct,rfl,hl,hct,hK⟩:=Lies.mk_iff.1 ht;obtain⟨k8,n8,ks8⟩:=want;obtain⟨A8,c8,rfl,hl8,hc8,hK8⟩:=Lies.mk_iff.1 hw;have HT:=hdq ht;have HW:=hdq hw;have HI:=hdq hI;have HG:=hdq hG;have HV:=hdq hv;obtain⟨s,d,hs,hcd⟩: ∃s d,inf (.mk k n ks)=some (s,d)/\c=if d=0 then cvtV s (.mk k8 n8 ks8) else d:=by
  rcases j131 h with⟨s,hs,rfl⟩ |⟨s,hs,hc⟩
  · exact⟨s,0,hs,by rw[if_pos rfl]⟩
  · exact⟨s,c,hs,by rw[if_neg hc]⟩
 have HS:=hdq hs;clear h hs ht hw hI hG hv hK hK8;obtain⟨w1,hw1⟩: ∃x,x=((w0.alloc (.cells #[.int .i64 k,.int .i64 n,.slice At ks.length ct] 25)).alloc (.cells #[.int .i64 k8,.int .i64 n8,.slice A8 ks8.length c8] 25)):=⟨_,rfl⟩;obtain⟨bt_1,bw_1,s1,e1⟩:=box2 hw1;go_enter Tryz.func88,Tryz.ntmps88;go_wp2_with fail;rw[<-hw1];clear hw1;refine(HI.out w1 AllN (hx.trans e1) (fun _ _=> trivial) (InK.all (HG.out.ext e1)) _ _ (InT.all (HT.out.ext e1)) HV.out _ HS.out).mono ?_;rintro e w2 ⟨u,rfl,hT,e2⟩;have s2:=e2.size;simp only at hT⊢;obtain⟨a1,b1,A1,l1,c1,rfl⟩:=hT.three;have T1:=hdq hT;clear hT HS;by_cases hd:d=0
 case neg=>
  rw[if_neg hd] at hcd;subst hcd;have t1:(c !=0)=true:=by simp[hd]
  clear hd;have X0_1:=e1;have X0_2:=X0_1.trans e2;have bt_2:=e2.blk bt_1;obtain⟨zt0,zt1,zt2,-⟩:=own3 bt_2;have lt:=q10 bt_2;have bw_2:=e2.blk bw_1;obtain⟨zw0,zw1,zw2,-⟩:=own3 bw_2;have lw:=q10 bw_2;go_wp2_with fail;go_ret;exact⟨rfl,X0_2.alloc _⟩
 subst hd;rw[if_pos rfl] at hcd;subst hcd;have bt_2:=e2.blk bt_1;obtain⟨zt0,zt1,zt2,-⟩:=own3 bt_2;have lt:=q10 bt_2;have bw_2:=e2.blk bw_1;obtain⟨zw0,zw1,zw2,-⟩:=own3 bw_2;have lw:=q10 bw_2;obtain⟨w3,hw3⟩: ∃x,x=w2.alloc (.cells #[.int .i64 a1,.int .i64 b1,.slice A1 l1 c1] 25):=⟨_,rfl⟩;have e3:Ext w2 w3:=hw3▸(xr w2).alloc _;have bx_3:=heap_alloc_new w2 (.cells #[.int .i64 a1,.int .i64 b1,.slice A1 l1 c1] 25);rw[<-hw3] at bx_3;have s3:w2.heap.size < w3.heap.size:=q10 bx_3;go_wp2_with fail;rw[<-hw3];clear hw3;clear zt0 zt1 zt2 lt zw0 zw1 zw2 lw;have X0_1:=e1;have X0_2:=X0_1.trans e2;have X0_3:=X0_2.trans e3;have X2_3:=e3;refine(q57 s (.mk k8 n8 ks8) w3 _ _ (T1.out.lies'.ext X2_3) (HW.out.ext X0_3)).mono ?_;rintro e w4 ⟨rfl,e4⟩;have s4:=e4.size;have X0_4:=X0_3.trans e4;go_wp2_with fail;go_ret;exact⟨rfl,X0_4⟩
end Go.Proofs.YtdkamgafpphdjaaGreat
