import Derived.Test.YtplkdeknjghobaaGreatDoorBe10
import Derived.Test.YtplkdeknjghobaaGreatDoorBe5
import Derived.Test.YtplkdeknjghobaaGreatDoorBe6
set_option maxRecDepth 100000
set_option maxHeartbeats 0
namespace Go.Proofs.YtplkdeknjghobaaGreatDoor.frac
open Go.RowKit
theorem qd7 (x K:Nat) (hK:K<=274877906944) (vm:Value) (w:World) (hm:MagAt w vm x) (hx:Fit x K) (hT:HasT w) :
  Calls Tryz.prog 160 #[vm] w fun e w'=>e=.returned (.int .i64 ((num x).size:Int))/\Below w.heap.size w w':=by
 have hz:=qcF x vm w hm
 by_cases h0:x=0
 ·subst h0;rw [qV rfl] at hz;have hn:(num 0).size=1:=by rw [qdb,qbZ (by decide)];rfl
  rw [hn];have HZ:=qH hz;obtain⟨am,bm,om,cm,n,M,rfl,Im,hMx⟩:=hm;clear hz hn Im hMx;go_enter Tryz.func160,Tryz.ntmps160;go_wp2_with fail;refine HZ.out.mono ?_;rintro e w1 ⟨rfl,rfl⟩;go_wp2;go_ret;exact⟨rfl,Below.refl _ _⟩
 ·rw [qU h0] at hz;have HZ:=qH hz;obtain⟨am,bm,om,cm,n,M,rfl,Im,rfl⟩:=hm;have hn0:n≠0:=fun e=>h0 (Im.nrm.zero.2 (by rw [Im.len];exact e))
  obtain⟨l,rfl⟩:∃l,n=l+1:=⟨n-1,by omega⟩;have hl:l<=274877906944:=by have:=hx.len Im;omega
  have ht:=Im.nrm.resolve_left (by rw [Im.len];omega);rw [Im.len,Nat.add_sub_cancel] at ht;have htn:=qnc Im.dig Im.len ht;have haw:=Im.addr (by omega);subst haw;have hcm:=Im.cell l (by omega);obtain⟨d,hd⟩:=qX (dg M l);have hdl:d<1000000000:=by rw [<-hd];exact Im.dig l
  rw [hd] at hcm;rw [show M.getD l 0=d from hd] at htn;have hit:=qgt d (by omega) w hT;have hns:(num d).size=(Lib.decDigits d).length:=rfl;have hnl:(Lib.decDigits d).length<=9:=qb9 9 d (by decide) (by rw [ten9];exact hdl);obtain⟨k,hk⟩:=qX ((Lib.decDigits d).length);rw [hk] at hnl hns htn;obtain⟨r,hr⟩:=qX (l*9+k);rw [qdb,htn,hr];obtain⟨l9,hl9⟩:=qX (l*9);obtain⟨l1,hl1⟩:=qX (l+1);have i1:(l1:Int)-1=l:=by omega
  have i2:(l:Int)*9=l9:=by omega
  have i3:(l9:Int)+k=r:=by omega
  have i4:(l:Int)<l1:=by omega
  have hb1:l1<=274877906945:=by omega
  have hb2:l9<=2473901162496:=by omega
  rw [hl1] at HZ ⊢;have HI:=qH hit;have HS:=qH hns;clear hz Im h0 hn0 ht htn hd hit hk hr hl9 hl1 hx hns;go_enter Tryz.func160,Tryz.ntmps160;go_wp2_with fail;refine HZ.out.mono ?_;rintro e w1 ⟨rfl,rfl⟩;go_wp2_with fail;refine HI.out.mono ?_;rintro e w2 ⟨rfl,hb2⟩;have HB:=qH hb2;have hns:=HS.out;clear hb2;generalize num d=nd at *;go_wp2;go_ret;exact⟨rfl,HB.out⟩
theorem qgZ (B b:Nat) (l:List UInt8) (d wd:Nat) (hd:d<1000000000) (hwd:wd<=9) (w:World) (hBd:IsBd B b (Lib.byteCells l) w) (hl:l.length<=4398046511104) (hBw:B<=w.heap.size) (hT:HasT w) :
  Calls Tryz.prog 220 #[.int .u32 (d:Int),.int .i64 (wd:Int),.pointer (some ⟨b,0,none⟩)] w fun e w'=>e=.returned (.tuple #[])/\IsBd B b (Lib.byteCells (l++(List.replicate (wd-(Lib.decDigits d).length) 48++Lib.decDigits d))) w'/\Below B w w':=by
 have hit:=qgt d (by omega) w hT;have hnl:(Lib.decDigits d).length<=9:=qb9 9 d (by decide) (by rw [ten9];exact hd);have hns:(num d).size=(Lib.decDigits d).length:=rfl;have hnn:(num d).data.toList=Lib.decDigits d:=rfl;obtain⟨k,hk⟩:=qX ((Lib.decDigits d).length);rw [hk] at hnl hns;obtain⟨t,ht⟩:=qX (num d);rw [ht] at hit hns hnn;obtain⟨D,hD⟩:=qX (Lib.decDigits d);rw [hD] at hnn hk ⊢;rw [hk];have HI:=qH hit;have HN:=qH (qA hnn hk);have HB0:=qH (qA hBd (qA hl hBw));clear hit hnn hk ht hD hBd hT hl hBw;go_enter Tryz.func220,Tryz.ntmps220;go_wp2_with fail;refine HI.out.mono ?_;rintro e w1 ⟨rfl,hb1⟩;have HB1:Hid (IsBd B b (Lib.byteCells l) w1/\Below B w w1):=qH ⟨qhs HB0.out.1 hb1,hb1.mono HB0.out.2.2⟩;clear hb1;go_wp2_with fail
 go_loopw [13] (fun x13 W=>∃j:Nat,x13=.int .i64 j/\j<=wd-k/\Hid (IsBd B b (Lib.byteCells (l++List.replicate j 48)) W)/\Hid (Below B w W)) (fun x13 _=>wd-k-(intOf x13).toNat)
 case atStart=>exact⟨0,rfl,qam _,qH (by simpa using HB1.out.1),qH HB1.out.2⟩
 case round =>
  obtain⟨j,rfl,hj,hI,hB⟩:=hrel;have Hsz:Hid (B<=wr.heap.size):=qH (qaj HB0.out.2.2 hB.out.size);have Hlen:Hid ((Lib.byteCells (l++List.replicate j 48)).length<=4398046511204):=qH (by rw [Lib.byteCells_length,qaf,qaQ];have:=HB0.out.2.1;omega)
  by_cases hlt:j<wd-k
  ·have hji:(j:Int)<(wd:Int)-k:=by omega
   go_wp2_with fail;refine (qfN B b _ 48 _ hI.out (by have:=Hlen.out;omega) Hsz.out).mono ?_;rintro e w2 ⟨rfl,hI2,hB2⟩;have H2:Hid (IsBd B b (Lib.byteCells (l++List.replicate (j+1) 48)) w2/\Below B w w2):=qH ⟨.inr (by
    have e1:Lib.byteCells (l++List.replicate (j+1) 48)=Lib.byteCells (l++List.replicate j 48)++[.int .u8 48]:=by
     rw [List.replicate_succ',<-qay];unfold Lib.byteCells;rw [qa5];rfl
    rw [e1];exact hI2),hB.out.trans hB2⟩
   clear hI2 hB2;go_wp2;go_roundw
   case rel=>exact⟨j+1,by go_num,hlt,qH H2.out.1,qH H2.out.2⟩
   case measure=>simp [intOf];omega
  ·obtain rfl:j=wd-k:=by omega
   have hji:¬((wd-k:Nat):Int)<(wd:Int)-k:=by omega
   go_wp2_with fail;refine (qeI B b _ t _ hI.out (by have:=Hlen.out;omega) Hsz.out).mono ?_;rintro e w2 ⟨rfl,hI2,hB2⟩;have H2:Hid (IsBd B b (Lib.byteCells (l++(List.replicate (wd-k) 48++D))) w2/\Below B w w2):=qH ⟨.inr (by
    have e1:Lib.byteCells (l++(List.replicate (wd-k) 48++D))=Lib.byteCells (l++List.replicate (wd-k) 48)++Lib.strCells t:=by
     rw [Lib.strCells_eq,HN.out.1,<-qay];unfold Lib.byteCells;rw [qa5]
    rw [e1];exact hI2),hB.out.trans hB2⟩
   clear hI2 hB2;go_wp2_with fail
   go_end0
   exact⟨rfl,H2.out.1,H2.out.2⟩
theorem qdY (x K:Nat) (hK:K<=274877906944) (vm:Value) (w:World) (hm:MagAt w vm x) (hx:Fit x K) (hT:HasT w) :
  Calls Tryz.prog 162 #[vm] w fun e w'=>e=.returned (.string (num x))/\Below w.heap.size w w':=by
 have hz:=qcF x vm w hm
 by_cases h0:x=0
 ·subst h0;rw [qV rfl] at hz;have hn:num 0=⟨#[48]⟩:=by unfold num;rw [qbZ (by decide)];rfl
  rw [hn];have HZ:=qH hz;obtain⟨am,bm,om,cm,n,M,rfl,Im,hMx⟩:=hm;clear hz hn Im hMx hT;go_enter Tryz.func162,Tryz.ntmps162;go_wp2_with fail;refine HZ.out.mono ?_;rintro e w1 ⟨rfl,rfl⟩;go_wp2;go_ret;exact⟨rfl,Below.refl _ _⟩
 ·rw [qU h0] at hz;have HZ:=qH hz;obtain⟨am,bm,om,cm,n,M,rfl,Im,rfl⟩:=hm;have hn0:n≠0:=fun e=>h0 (Im.nrm.zero.2 (by rw [Im.len];exact e))
  obtain⟨l,rfl⟩:∃l,n=l+1:=⟨n-1,by omega⟩;have hl:l<=274877906944:=by have:=hx.len Im;omega
  have ht:=Im.nrm.resolve_left (by rw [Im.len];omega);rw [Im.len,Nat.add_sub_cancel] at ht;have haw:=Im.addr (by omega);subst haw;have HTB:Hid (∀W,Below w.heap.size w W->HasT W):=qH fun W h=>hT.below h
  obtain⟨l1,hl1⟩:=qX (l+1);have i1:(l1:Int)-1=l:=by omega
  have i4:(l:Int)<l1:=by omega
  have hb1:l1<=274877906945:=by omega
  have HM:=qH Im;have Hl:=qH (qA hl1 ht);rw [hl1] at HZ ⊢;obtain⟨W1,hW1⟩:=qY (w.alloc (.cells #[.pointer none,.slice none 0 0] 304));have hB1:Below w.heap.size w W1:=hW1▸qB.alloc qN _;have hI1:IsBd w.heap.size w.heap.size (Lib.byteCells []) W1:=by rw [hW1];exact Lib.fresh_isBuilder 304 5 w
  have hcm:=(Im.below hB1).cell l (by omega);obtain⟨d,hd⟩:=qX (dg M l);have hdl:d<1000000000:=by rw [<-hd];exact Im.dig l
  rw [hd] at hcm;have hp:=qgZ w.heap.size w.heap.size [] d 0 hdl (by omega) W1 hI1 (by simp) hB1.size (hT.below hB1);rw [Nat.zero_sub] at hp;have HP:=qH hp;have hlast:mval (M.drop l)=d:=by
   rw [qcJ M l,show M.getD l 0=d from hd,qaG (by rw [Im.len];omega)];rfl
  have HD:=qH (qA hlast hd);have HB1:=qH hB1;clear hz Im h0 hn0 ht hl1 hx hT hI1 hp hlast hd hB1;go_enter Tryz.func162,Tryz.ntmps162;go_wp2_with fail;refine HZ.out.mono ?_;rintro e w1 ⟨rfl,rfl⟩;rw [hW1] at hcm;go_wp2_with fail;rw [<-hW1];refine HP.out.mono ?_;rintro e w2 ⟨rfl,hI2,hB2⟩;have H2:Hid (IsBd w1.heap.size w1.heap.size (Lib.byteCells (Lib.decDigits (mval (M.drop l)))) w2/\Below w1.heap.size w1 w2):=qH ⟨by rw [HD.out.1];simpa using hI2,HB1.out.trans hB2⟩;clear hI2 hB2 hW1 hcm HP;have HM:=qH (HM.out);go_wp2_with fail
  go_loopw [6] (fun x6 W=>∃(k:Nat) (z:Int),k<=l/\x6=.int .i64 z/\Hid (z+1=k)/\Hid (IsBd w1.heap.size w1.heap.size (Lib.byteCells (Lib.decDigits (mval (M.drop k)))) W)/\Hid (Below w1.heap.size w1 W)) (fun x6 _=>(intOf x6+1).toNat)
  case atStart=>exact⟨l,_,qad _,rfl,qH (by omega),qH H2.out.1,qH H2.out.2⟩
  case round =>
   obtain⟨k,z,hk,rfl,hz,hI,hB⟩:=hrel
   by_cases hk0:0<k
   ·obtain⟨j,rfl⟩:∃j,k=j+1:=⟨k-1,by omega⟩;obtain rfl:z=(j:Int):=by have:=hz.out;omega
    have hji:(j:Int)<l1:=by omega
    have hcm:=(HM.out.below hB.out).cell j (by have:=Hl.out.1;omega);obtain⟨d2,hd2⟩:=qX (dg M j);have hd2l:d2<1000000000:=by rw [<-hd2];exact HM.out.dig j
    rw [hd2] at hcm;have hpos:0<mval (M.drop (j+1)):=by
     have hnr:Nrm (M.drop (j+1)):=qah (by
      rw [qaY,HM.out.len,qaa,List.getElem?_drop,<-qaa];rw [show j+1+(l+1-(j+1)-1)=l by omega];exact Hl.out.2)
     rcases qaK (mval (M.drop (j+1))) with h | h
     ·have:=hnr.zero.1 h;rw [qaY,HM.out.len] at this;omega
     ·exact h
    have hdn:=qjQ (L:=M) (j:=j) HM.out.dig hpos;rw [show M.getD j 0=d2 from hd2] at hdn;have hlen:(Lib.decDigits (mval (M.drop (j+1)))).length<=4398046511104:=by
     have h1:=(HM.out.dig.drop (j+1)).lt;rw [qaY,HM.out.len,pow9] at h1;have h2:=qb9 (9*(l+1-(j+1))) _ (by omega) h1;omega
    have hp:=qgZ w1.heap.size w1.heap.size _ d2 9 hd2l qN wr hI.out hlen hB.out.size (HTB.out _ hB.out);rw [<-hdn] at hp;have HP:=qH hp;clear hp hdn hlen hpos hd2;go_wp2_with fail;refine HP.out.mono ?_;rintro e w3 ⟨rfl,hI3,hB3⟩;have H3:=qH (qA hI3 (hB.out.trans hB3));clear hI3 hB3;go_wp2;go_roundw
    case rel=>exact⟨j,_,by omega,rfl,qH (by omega),qH H3.out.1,qH H3.out.2⟩
    case measure=>simp [intOf]
   ·obtain rfl:k=0:=by omega
    obtain rfl:z = -1:=by have:=hz.out;omega
    have hs:=Tryz.Builder_String_any _ _ _ _ hI.out hB.out.size;rw [List.drop_zero] at hs;have HS:=qH hs;clear hs;go_wp2_with fail;refine HS.out.mono ?_;rintro e w3 ⟨rfl,hB3⟩;have H3:=qH hB3;clear hB3;go_wp2;go_ret;exact⟨rfl,hB.out.trans H3.out⟩
theorem qb3 (x:Nat) (neg:Bool) (vm:Value) (w:World) (hm:MagAt w vm x) :
  Calls Tryz.prog 95 #[vm,.bool neg] w fun e w'=>∃v,e=.returned v/\Below w.heap.size w w'/\IntAt w' v (if neg=true then -(x:Int) else x):=by
 have hz:=fun (W:World) (h:Below w.heap.size w W)=>qcF x vm W (hm.below h)
 obtain⟨b0,hb0⟩:=qX (decide (x=0));have hi:=fun (W:World) (h:Below w.heap.size w W)=>qhE (neg:=neg) (hm.below h)
 rw [hb0] at hz hi;obtain⟨am,bm,om,cm,n,M,rfl,Im,hMx⟩:=hm;have HZ:=qH hz;have HI:=qH hi;have hba:∀cs,Below w.heap.size w (w.alloc (.cells cs 136)):=fun cs=>qB.alloc qN _
 have HA:=qH hba;generalize (if neg=true then -(x:Int) else x)=z at *;clear hz Im hMx hb0 hba hi;cases neg with
 | false =>
  go_enter Tryz.func95,Tryz.ntmps95;go_wp2_with fail;refine qR (v:=.agg #[.slice am n cm,.bool false]) (rA_ rfl w.heap.size (qM _ _ _ rfl) Tryz.underlying136 2) rfl ⟨_,rfl,HA.out _,HI.out _ (HA.out _)⟩
 | true =>
  go_enter Tryz.func95,Tryz.ntmps95;go_wp2_with fail;refine (HZ.out _ (HA.out _)).mono ?_;rintro e w1 ⟨rfl,rfl⟩;go_wp2_with fail;refine qR (v:=.agg #[.slice am n cm,.bool (!b0)]) (rA_ rfl w.heap.size (qM _ _ _ rfl) Tryz.underlying136 2) rfl ⟨_,rfl,HA.out _,HI.out _ (HA.out _)⟩
theorem qcy (s:ByteArray) (hs:Valid s.data.toList) (w:World) :
  Calls Tryz.prog 147 #[.string s] w fun e w'=>∃v,e=.returned v/\Below w.heap.size w w'/\IntAt w' v (ival s.data.toList):=by
 have hc:=fun W=>Tryz.strings_CutPrefix s ⟨#[45]⟩ W
 obtain⟨t,ht⟩:=qX ((⟨(Lib.trimPrefix s.data.toList (ByteArray.mk #[45]).data.toList).toArray⟩:ByteArray):ByteArray);have htl:t.data.toList=body s.data.toList:=by rw [<-ht];rfl
 have hts:t.size=(body s.data.toList).length:=by rw [<-htl];rfl
 obtain⟨b,hb⟩:=qX (Lib.hasPrefix s.data.toList (ByteArray.mk #[45]).data.toList);have hbs:signd s.data.toList=b:=hb;rw [ht,hb] at hc;have hg:=fun W=>qd3 t (by rw [htl];exact hs.nums) (by rw [hts];exact hs.pos) (by rw [hts];have:=hs.le;omega) W
 have hn:=hs.natAbs;have hneg:=hs.neg;rw [htl,<-hn] at hg;rw [hbs] at hneg;have HC:=qH hc;have HG:=qH hg;have HN:=qH hneg;generalize ival s.data.toList=z at *;clear hc hg hn hneg hbs hb hts htl ht hs;go_enter Tryz.func147,Tryz.ntmps147;go_wp2_with fail;refine (HC.out _).mono ?_;rintro e w1 ⟨rfl,rfl⟩;go_wp2_with fail;refine (HG.out _).mono ?_;rintro e w2 ⟨v,rfl,hb2,hv⟩;have hrow:w2.heap[w.heap.size]? = some (.cells #[.slice none 0 0,.bool false] 136 (0,0)):=(hb2.block _ (by simp)).trans (qM _ _ _ rfl);have hbw:Below w.heap.size w w2:=(qB.alloc qN _).trans (hb2.mono (by simp));have hvs:=qcx (cs':=#[v,.bool b]) hv hrow qcX;have HR:=qH (qA hrow (qA hbw (qS hbw qN #[v,.bool b])));have HV:=qH hvs;obtain⟨am,bm,om,cm,n,M,rfl,Im,hMx⟩:=hv;clear hrow hbw hvs hb2 Im hMx
 go_wp2_with ((with_reducible refine wpList_store_row rfl 136 _ _ rfl w.heap.size #[.slice am n cm,.bool b] ?_ ?_ 136 _ HR.out.1 2 ?_ ?_ ?_ ?_ ?_);(next=>rfl);(next=>rfl);(next=>kernel_rfl);(next=>rfl);(next=>rfl);(next=>rfl))
 refine qR (v:=.agg #[.slice am n cm,.bool b]) (rA_ rfl w.heap.size (qT _ _ _ _ _ _ HR.out.1) Tryz.underlying136 2) rfl ⟨_,rfl,HR.out.2.2,_,by rw [HN.out],HV.out⟩
end Go.Proofs.YtplkdeknjghobaaGreatDoor.frac
namespace Go.Proofs.YtplkdeknjghobaaGreatDoor.least
open Go.RowKit
theorem qd7 (x K:Nat) (hK:K<=274877906944) (vm:Value) (w:World) (hm:MagAt w vm x) (hx:Fit x K) (hT:HasT w) :
  Calls Tryz.prog 237 #[vm] w fun e w'=>e=.returned (.int .i64 ((num x).size:Int))/\Below w.heap.size w w':=by
 have hz:=qcF x vm w hm
 by_cases h0:x=0
 ·subst h0;rw [qV rfl] at hz;have hn:(num 0).size=1:=by rw [qdb,qbZ (by decide)];rfl
  rw [hn];have HZ:=qH hz;obtain⟨am,bm,om,cm,n,M,rfl,Im,hMx⟩:=hm;clear hz hn Im hMx;go_enter Tryz.func237,Tryz.ntmps237;go_wp2_with fail;refine HZ.out.mono ?_;rintro e w1 ⟨rfl,rfl⟩;go_wp2;go_ret;exact⟨rfl,Below.refl _ _⟩
 ·rw [qU h0] at hz;have HZ:=qH hz;obtain⟨am,bm,om,cm,n,M,rfl,Im,rfl⟩:=hm;have hn0:n≠0:=fun e=>h0 (Im.nrm.zero.2 (by rw [Im.len];exact e))
  obtain⟨l,rfl⟩:∃l,n=l+1:=⟨n-1,by omega⟩;have hl:l<=274877906944:=by have:=hx.len Im;omega
  have ht:=Im.nrm.resolve_left (by rw [Im.len];omega);rw [Im.len,Nat.add_sub_cancel] at ht;have htn:=qnc Im.dig Im.len ht;have haw:=Im.addr (by omega);subst haw;have hcm:=Im.cell l (by omega);obtain⟨d,hd⟩:=qX (dg M l);have hdl:d<1000000000:=by rw [<-hd];exact Im.dig l
  rw [hd] at hcm;rw [show M.getD l 0=d from hd] at htn;have hit:=qgt d (by omega) w hT;have hns:(num d).size=(Lib.decDigits d).length:=rfl;have hnl:(Lib.decDigits d).length<=9:=qb9 9 d (by decide) (by rw [ten9];exact hdl);obtain⟨k,hk⟩:=qX ((Lib.decDigits d).length);rw [hk] at hnl hns htn;obtain⟨r,hr⟩:=qX (l*9+k);rw [qdb,htn,hr];obtain⟨l9,hl9⟩:=qX (l*9);obtain⟨l1,hl1⟩:=qX (l+1);have i1:(l1:Int)-1=l:=by omega
  have i2:(l:Int)*9=l9:=by omega
  have i3:(l9:Int)+k=r:=by omega
  have i4:(l:Int)<l1:=by omega
  have hb1:l1<=274877906945:=by omega
  have hb2:l9<=2473901162496:=by omega
  rw [hl1] at HZ ⊢;have HI:=qH hit;have HS:=qH hns;clear hz Im h0 hn0 ht htn hd hit hk hr hl9 hl1 hx hns;go_enter Tryz.func237,Tryz.ntmps237;go_wp2_with fail;refine HZ.out.mono ?_;rintro e w1 ⟨rfl,rfl⟩;go_wp2_with fail;refine HI.out.mono ?_;rintro e w2 ⟨rfl,hb2⟩;have HB:=qH hb2;have hns:=HS.out;clear hb2;generalize num d=nd at *;go_wp2;go_ret;exact⟨rfl,HB.out⟩
theorem qgZ (B b:Nat) (l:List UInt8) (d wd:Nat) (hd:d<1000000000) (hwd:wd<=9) (w:World) (hBd:IsBd B b (Lib.byteCells l) w) (hl:l.length<=4398046511104) (hBw:B<=w.heap.size) (hT:HasT w) :
  Calls Tryz.prog 269 #[.int .u32 (d:Int),.int .i64 (wd:Int),.pointer (some ⟨b,0,none⟩)] w fun e w'=>e=.returned (.tuple #[])/\IsBd B b (Lib.byteCells (l++(List.replicate (wd-(Lib.decDigits d).length) 48++Lib.decDigits d))) w'/\Below B w w':=by
 have hit:=qgt d (by omega) w hT;have hnl:(Lib.decDigits d).length<=9:=qb9 9 d (by decide) (by rw [ten9];exact hd);have hns:(num d).size=(Lib.decDigits d).length:=rfl;have hnn:(num d).data.toList=Lib.decDigits d:=rfl;obtain⟨k,hk⟩:=qX ((Lib.decDigits d).length);rw [hk] at hnl hns;obtain⟨t,ht⟩:=qX (num d);rw [ht] at hit hns hnn;obtain⟨D,hD⟩:=qX (Lib.decDigits d);rw [hD] at hnn hk ⊢;rw [hk];have HI:=qH hit;have HN:=qH (qA hnn hk);have HB0:=qH (qA hBd (qA hl hBw));clear hit hnn hk ht hD hBd hT hl hBw;go_enter Tryz.func269,Tryz.ntmps269;go_wp2_with fail;refine HI.out.mono ?_;rintro e w1 ⟨rfl,hb1⟩;have HB1:Hid (IsBd B b (Lib.byteCells l) w1/\Below B w w1):=qH ⟨qhs HB0.out.1 hb1,hb1.mono HB0.out.2.2⟩;clear hb1;go_wp2_with fail
 go_loopw [13] (fun x13 W=>∃j:Nat,x13=.int .i64 j/\j<=wd-k/\Hid (IsBd B b (Lib.byteCells (l++List.replicate j 48)) W)/\Hid (Below B w W)) (fun x13 _=>wd-k-(intOf x13).toNat)
 case atStart=>exact⟨0,rfl,qam _,qH (by simpa using HB1.out.1),qH HB1.out.2⟩
 case round =>
  obtain⟨j,rfl,hj,hI,hB⟩:=hrel;have Hsz:Hid (B<=wr.heap.size):=qH (qaj HB0.out.2.2 hB.out.size);have Hlen:Hid ((Lib.byteCells (l++List.replicate j 48)).length<=4398046511204):=qH (by rw [Lib.byteCells_length,qaf,qaQ];have:=HB0.out.2.1;omega)
  by_cases hlt:j<wd-k
  ·have hji:(j:Int)<(wd:Int)-k:=by omega
   go_wp2_with fail;refine (qfN B b _ 48 _ hI.out (by have:=Hlen.out;omega) Hsz.out).mono ?_;rintro e w2 ⟨rfl,hI2,hB2⟩;have H2:Hid (IsBd B b (Lib.byteCells (l++List.replicate (j+1) 48)) w2/\Below B w w2):=qH ⟨.inr (by
    have e1:Lib.byteCells (l++List.replicate (j+1) 48)=Lib.byteCells (l++List.replicate j 48)++[.int .u8 48]:=by
     rw [List.replicate_succ',<-qay];unfold Lib.byteCells;rw [qa5];rfl
    rw [e1];exact hI2),hB.out.trans hB2⟩
   clear hI2 hB2;go_wp2;go_roundw
   case rel=>exact⟨j+1,by go_num,hlt,qH H2.out.1,qH H2.out.2⟩
   case measure=>simp [intOf];omega
  ·obtain rfl:j=wd-k:=by omega
   have hji:¬((wd-k:Nat):Int)<(wd:Int)-k:=by omega
   go_wp2_with fail;refine (qeI B b _ t _ hI.out (by have:=Hlen.out;omega) Hsz.out).mono ?_;rintro e w2 ⟨rfl,hI2,hB2⟩;have H2:Hid (IsBd B b (Lib.byteCells (l++(List.replicate (wd-k) 48++D))) w2/\Below B w w2):=qH ⟨.inr (by
    have e1:Lib.byteCells (l++(List.replicate (wd-k) 48++D))=Lib.byteCells (l++List.replicate (wd-k) 48)++Lib.strCells t:=by
     rw [Lib.strCells_eq,HN.out.1,<-qay];unfold Lib.byteCells;rw [qa5]
    rw [e1];exact hI2),hB.out.trans hB2⟩
   clear hI2 hB2;go_wp2_with fail
   go_end0
   exact⟨rfl,H2.out.1,H2.out.2⟩
theorem qdY (x K:Nat) (hK:K<=274877906944) (vm:Value) (w:World) (hm:MagAt w vm x) (hx:Fit x K) (hT:HasT w) :
  Calls Tryz.prog 239 #[vm] w fun e w'=>e=.returned (.string (num x))/\Below w.heap.size w w':=by
 have hz:=qcF x vm w hm
 by_cases h0:x=0
 ·subst h0;rw [qV rfl] at hz;have hn:num 0=⟨#[48]⟩:=by unfold num;rw [qbZ (by decide)];rfl
  rw [hn];have HZ:=qH hz;obtain⟨am,bm,om,cm,n,M,rfl,Im,hMx⟩:=hm;clear hz hn Im hMx hT;go_enter Tryz.func239,Tryz.ntmps239;go_wp2_with fail;refine HZ.out.mono ?_;rintro e w1 ⟨rfl,rfl⟩;go_wp2;go_ret;exact⟨rfl,Below.refl _ _⟩
 ·rw [qU h0] at hz;have HZ:=qH hz;obtain⟨am,bm,om,cm,n,M,rfl,Im,rfl⟩:=hm;have hn0:n≠0:=fun e=>h0 (Im.nrm.zero.2 (by rw [Im.len];exact e))
  obtain⟨l,rfl⟩:∃l,n=l+1:=⟨n-1,by omega⟩;have hl:l<=274877906944:=by have:=hx.len Im;omega
  have ht:=Im.nrm.resolve_left (by rw [Im.len];omega);rw [Im.len,Nat.add_sub_cancel] at ht;have haw:=Im.addr (by omega);subst haw;have HTB:Hid (∀W,Below w.heap.size w W->HasT W):=qH fun W h=>hT.below h
  obtain⟨l1,hl1⟩:=qX (l+1);have i1:(l1:Int)-1=l:=by omega
  have i4:(l:Int)<l1:=by omega
  have hb1:l1<=274877906945:=by omega
  have HM:=qH Im;have Hl:=qH (qA hl1 ht);rw [hl1] at HZ ⊢;obtain⟨W1,hW1⟩:=qY (w.alloc (.cells #[.pointer none,.slice none 0 0] 304));have hB1:Below w.heap.size w W1:=hW1▸qB.alloc qN _;have hI1:IsBd w.heap.size w.heap.size (Lib.byteCells []) W1:=by rw [hW1];exact Lib.fresh_isBuilder 304 5 w
  have hcm:=(Im.below hB1).cell l (by omega);obtain⟨d,hd⟩:=qX (dg M l);have hdl:d<1000000000:=by rw [<-hd];exact Im.dig l
  rw [hd] at hcm;have hp:=qgZ w.heap.size w.heap.size [] d 0 hdl (by omega) W1 hI1 (by simp) hB1.size (hT.below hB1);rw [Nat.zero_sub] at hp;have HP:=qH hp;have hlast:mval (M.drop l)=d:=by
   rw [qcJ M l,show M.getD l 0=d from hd,qaG (by rw [Im.len];omega)];rfl
  have HD:=qH (qA hlast hd);have HB1:=qH hB1;clear hz Im h0 hn0 ht hl1 hx hT hI1 hp hlast hd hB1;go_enter Tryz.func239,Tryz.ntmps239;go_wp2_with fail;refine HZ.out.mono ?_;rintro e w1 ⟨rfl,rfl⟩;rw [hW1] at hcm;go_wp2_with fail;rw [<-hW1];refine HP.out.mono ?_;rintro e w2 ⟨rfl,hI2,hB2⟩;have H2:Hid (IsBd w1.heap.size w1.heap.size (Lib.byteCells (Lib.decDigits (mval (M.drop l)))) w2/\Below w1.heap.size w1 w2):=qH ⟨by rw [HD.out.1];simpa using hI2,HB1.out.trans hB2⟩;clear hI2 hB2 hW1 hcm HP;have HM:=qH (HM.out);go_wp2_with fail
  go_loopw [6] (fun x6 W=>∃(k:Nat) (z:Int),k<=l/\x6=.int .i64 z/\Hid (z+1=k)/\Hid (IsBd w1.heap.size w1.heap.size (Lib.byteCells (Lib.decDigits (mval (M.drop k)))) W)/\Hid (Below w1.heap.size w1 W)) (fun x6 _=>(intOf x6+1).toNat)
  case atStart=>exact⟨l,_,qad _,rfl,qH (by omega),qH H2.out.1,qH H2.out.2⟩
  case round =>
   obtain⟨k,z,hk,rfl,hz,hI,hB⟩:=hrel
   by_cases hk0:0<k
   ·obtain⟨j,rfl⟩:∃j,k=j+1:=⟨k-1,by omega⟩;obtain rfl:z=(j:Int):=by have:=hz.out;omega
    have hji:(j:Int)<l1:=by omega
    have hcm:=(HM.out.below hB.out).cell j (by have:=Hl.out.1;omega);obtain⟨d2,hd2⟩:=qX (dg M j);have hd2l:d2<1000000000:=by rw [<-hd2];exact HM.out.dig j
    rw [hd2] at hcm;have hpos:0<mval (M.drop (j+1)):=by
     have hnr:Nrm (M.drop (j+1)):=qah (by
      rw [qaY,HM.out.len,qaa,List.getElem?_drop,<-qaa];rw [show j+1+(l+1-(j+1)-1)=l by omega];exact Hl.out.2)
     rcases qaK (mval (M.drop (j+1))) with h | h
     ·have:=hnr.zero.1 h;rw [qaY,HM.out.len] at this;omega
     ·exact h
    have hdn:=qjQ (L:=M) (j:=j) HM.out.dig hpos;rw [show M.getD j 0=d2 from hd2] at hdn;have hlen:(Lib.decDigits (mval (M.drop (j+1)))).length<=4398046511104:=by
     have h1:=(HM.out.dig.drop (j+1)).lt;rw [qaY,HM.out.len,pow9] at h1;have h2:=qb9 (9*(l+1-(j+1))) _ (by omega) h1;omega
    have hp:=qgZ w1.heap.size w1.heap.size _ d2 9 hd2l qN wr hI.out hlen hB.out.size (HTB.out _ hB.out);rw [<-hdn] at hp;have HP:=qH hp;clear hp hdn hlen hpos hd2;go_wp2_with fail;refine HP.out.mono ?_;rintro e w3 ⟨rfl,hI3,hB3⟩;have H3:=qH (qA hI3 (hB.out.trans hB3));clear hI3 hB3;go_wp2;go_roundw
    case rel=>exact⟨j,_,by omega,rfl,qH (by omega),qH H3.out.1,qH H3.out.2⟩
    case measure=>simp [intOf]
   ·obtain rfl:k=0:=by omega
    obtain rfl:z = -1:=by have:=hz.out;omega
    have hs:=Tryz.Builder_String_any _ _ _ _ hI.out hB.out.size;rw [List.drop_zero] at hs;have HS:=qH hs;clear hs;go_wp2_with fail;refine HS.out.mono ?_;rintro e w3 ⟨rfl,hB3⟩;have H3:=qH hB3;clear hB3;go_wp2;go_ret;exact⟨rfl,hB.out.trans H3.out⟩
theorem qb3 (x:Nat) (neg:Bool) (vm:Value) (w:World) (hm:MagAt w vm x) :
  Calls Tryz.prog 180 #[vm,.bool neg] w fun e w'=>∃v,e=.returned v/\Below w.heap.size w w'/\IntAt w' v (if neg=true then -(x:Int) else x):=by
 have hz:=fun (W:World) (h:Below w.heap.size w W)=>qcF x vm W (hm.below h)
 obtain⟨b0,hb0⟩:=qX (decide (x=0));have hi:=fun (W:World) (h:Below w.heap.size w W)=>qhE (neg:=neg) (hm.below h)
 rw [hb0] at hz hi;obtain⟨am,bm,om,cm,n,M,rfl,Im,hMx⟩:=hm;have HZ:=qH hz;have HI:=qH hi;have hba:∀cs,Below w.heap.size w (w.alloc (.cells cs 242)):=fun cs=>qB.alloc qN _
 have HA:=qH hba;generalize (if neg=true then -(x:Int) else x)=z at *;clear hz Im hMx hb0 hba hi;cases neg with
 | false =>
  go_enter Tryz.func180,Tryz.ntmps180;go_wp2_with fail;refine qR (v:=.agg #[.slice am n cm,.bool false]) (rA_ rfl w.heap.size (qM _ _ _ rfl) Tryz.underlying242 2) rfl ⟨_,rfl,HA.out _,HI.out _ (HA.out _)⟩
 | true =>
  go_enter Tryz.func180,Tryz.ntmps180;go_wp2_with fail;refine (HZ.out _ (HA.out _)).mono ?_;rintro e w1 ⟨rfl,rfl⟩;go_wp2_with fail;refine qR (v:=.agg #[.slice am n cm,.bool (!b0)]) (rA_ rfl w.heap.size (qM _ _ _ rfl) Tryz.underlying242 2) rfl ⟨_,rfl,HA.out _,HI.out _ (HA.out _)⟩
theorem qcy (s:ByteArray) (hs:Valid s.data.toList) (w:World) :
  Calls Tryz.prog 167 #[.string s] w fun e w'=>∃v,e=.returned v/\Below w.heap.size w w'/\IntAt w' v (ival s.data.toList):=by
 have hc:=fun W=>Tryz.strings_CutPrefix s ⟨#[45]⟩ W
 obtain⟨t,ht⟩:=qX ((⟨(Lib.trimPrefix s.data.toList (ByteArray.mk #[45]).data.toList).toArray⟩:ByteArray):ByteArray);have htl:t.data.toList=body s.data.toList:=by rw [<-ht];rfl
 have hts:t.size=(body s.data.toList).length:=by rw [<-htl];rfl
 obtain⟨b,hb⟩:=qX (Lib.hasPrefix s.data.toList (ByteArray.mk #[45]).data.toList);have hbs:signd s.data.toList=b:=hb;rw [ht,hb] at hc;have hg:=fun W=>qd3 t (by rw [htl];exact hs.nums) (by rw [hts];exact hs.pos) (by rw [hts];have:=hs.le;omega) W
 have hn:=hs.natAbs;have hneg:=hs.neg;rw [htl,<-hn] at hg;rw [hbs] at hneg;have HC:=qH hc;have HG:=qH hg;have HN:=qH hneg;generalize ival s.data.toList=z at *;clear hc hg hn hneg hbs hb hts htl ht hs;go_enter Tryz.func167,Tryz.ntmps167;go_wp2_with fail;refine (HC.out _).mono ?_;rintro e w1 ⟨rfl,rfl⟩;go_wp2_with fail;refine (HG.out _).mono ?_;rintro e w2 ⟨v,rfl,hb2,hv⟩;have hrow:w2.heap[w.heap.size]? = some (.cells #[.slice none 0 0,.bool false] 242 (0,0)):=(hb2.block _ (by simp)).trans (qM _ _ _ rfl);have hbw:Below w.heap.size w w2:=(qB.alloc qN _).trans (hb2.mono (by simp));have hvs:=qcx (cs':=#[v,.bool b]) hv hrow qcX;have HR:=qH (qA hrow (qA hbw (qS hbw qN #[v,.bool b])));have HV:=qH hvs;obtain⟨am,bm,om,cm,n,M,rfl,Im,hMx⟩:=hv;clear hrow hbw hvs hb2 Im hMx
 go_wp2_with ((with_reducible refine wpList_store_row rfl 242 _ _ rfl w.heap.size #[.slice am n cm,.bool b] ?_ ?_ 242 _ HR.out.1 2 ?_ ?_ ?_ ?_ ?_);(next=>rfl);(next=>rfl);(next=>kernel_rfl);(next=>rfl);(next=>rfl);(next=>rfl))
 refine qR (v:=.agg #[.slice am n cm,.bool b]) (rA_ rfl w.heap.size (qT _ _ _ _ _ _ HR.out.1) Tryz.underlying242 2) rfl ⟨_,rfl,HR.out.2.2,_,by rw [HN.out],HV.out⟩
