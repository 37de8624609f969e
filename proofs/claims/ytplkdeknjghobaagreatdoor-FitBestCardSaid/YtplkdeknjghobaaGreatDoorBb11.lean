import Derived.Test.YtplkdeknjghobaaGreatDoorBb10
import Derived.Test.YtplkdeknjghobaaGreatDoorBb5
import Derived.Test.YtplkdeknjghobaaGreatDoorBb6
set_option maxRecDepth 100000
set_option maxHeartbeats 0
namespace Go.Proofs.YtplkdeknjghobaaGreatDoor
open Go.RowKit Go.Proofs.Tryz
theorem qdE (pk:Pk) (x K:Nat) (hK:K<=274877906944) (vm:Value) (w:World) (hm:MagAt w vm x) (hx:Fit x K) (hT:HasT w) :
  Calls prog (Pk.of pk 160 237) #[vm] w fun e w'=>e=.returned (.int .i64 ((num x).size:Int))/\Below w.heap.size w w':=by
 have O:=(qcw pk) x vm w hm
 by_cases Z:x=0
 ·subst Z;rw [qV rfl] at O;have hn:(num 0).size=1:=by rw [qdF,qb1 (by decide)];rfl
  rw [hn];have Y:=qH O;obtain⟨am,bm,om,cm,n,M,rfl,F,aa⟩:=hm;clear O hn F aa;cases pk <;> dsimp only [Pk.of] at * <;> (
  first | go_enter func160,ntmps160 | go_enter func237,ntmps237
  go_wp2_with fail;refine Y.o.mono ?_;rintro e w1 ⟨rfl,rfl⟩;go_wp2;go_ret;exact⟨rfl,Below.refl _ _⟩)
 ·rw [qU Z] at O;have Y:=qH O;obtain⟨am,bm,om,cm,n,M,rfl,F,rfl⟩:=hm;have ai:n≠0:=fun e=>Z (F.nrm.zero.2 (by rw [F.len];exact e))
  obtain⟨l,rfl⟩:∃l,n=l+1:=⟨n-1,by omega⟩;have hl:l<=274877906944:=by have:=hx.len F;omega
  have ht:=F.nrm.resolve_left (by rw [F.len];omega);rw [F.len,Nat.add_sub_cancel] at ht;have I:=top_num F.dig F.len ht;have ae:=F.addr (by omega);subst ae;have af:=F.cell l (by omega);obtain⟨d,hd⟩:=qX (dg M l);have ag:d<1000000000:=by rw [<-hd];exact F.dig l
  rw [hd] at af;rw [show M.getD l 0=d from hd] at I;have U:=qkq d (by omega) w hT;have H:(num d).size=(Lib.decDigits d).length:=rfl;have aj:(Lib.decDigits d).length<=9:=qcq 9 d (by decide) (by rw [ten9];exact ag);obtain⟨k,hk⟩:=qX ((Lib.decDigits d).length);rw [hk] at aj H I;obtain⟨r,hr⟩:=qX (l*9+k);rw [qdF,I,hr];obtain⟨l9,ah⟩:=qX (l*9);obtain⟨l1,V⟩:=qX (l+1);have i1:(l1:Int)-1=l:=by omega
  have i2:(l:Int)*9=l9:=by omega
  have i3:(l9:Int)+k=r:=by omega
  have i4:(l:Int)<l1:=by omega
  have ak:l1<=274877906945:=by omega
  have J:l9<=2473901162496:=by omega
  rw [V] at Y ⊢;have HI:=qH U;have HS:=qH H;clear O F Z ai ht I hd U hk hr ah V hx H;cases pk <;> dsimp only [Pk.of] at * <;> (
  first | go_enter func160,ntmps160 | go_enter func237,ntmps237
  go_wp2_with fail;refine Y.o.mono ?_;rintro e w1 ⟨rfl,rfl⟩;go_wp2_with fail;refine HI.o.mono ?_;rintro e w2 ⟨rfl,J⟩;have HB:=qH J;have H:=HS.o;clear J;generalize num d=nd at *;go_wp2;go_ret;exact⟨rfl,HB.o⟩)
theorem qhA (pk:Pk) (B b:Nat) (l:List UInt8) (d wd:Nat) (hd:d<1000000000) (ak:wd<=9) (w:World) (ae:IsBd B b (Lib.byteCells l) w) (hl:l.length<=4398046511104) (af:B<=w.heap.size) (hT:HasT w) :
  Calls prog (Pk.of pk 220 269) #[.int .u32 (d:Int),.int .i64 (wd:Int),.pointer (some ⟨b,0,none⟩)] w fun e w'=>e=.returned (.tuple #[])/\IsBd B b (Lib.byteCells (l++(List.replicate (wd-(Lib.decDigits d).length) 48++Lib.decDigits d))) w'/\Below B w w':=by
 have V:=qkq d (by omega) w hT;have aj:(Lib.decDigits d).length<=9:=qcq 9 d (by decide) (by rw [ten9];exact hd);have ag:(num d).size=(Lib.decDigits d).length:=rfl;have J:(num d).data.toList=Lib.decDigits d:=rfl;obtain⟨k,hk⟩:=qX ((Lib.decDigits d).length);rw [hk] at aj ag;obtain⟨t,ht⟩:=qX (num d);rw [ht] at V ag J;obtain⟨D,hD⟩:=qX (Lib.decDigits d);rw [hD] at J hk ⊢;rw [hk];have HI:=qH V;have HN:=qH (qA J hk);have I:=qH (qA ae (qA hl af));clear V J hk ht hD ae hT hl af;cases pk <;> dsimp only [Pk.of] at * <;> (
 first | go_enter func220,ntmps220 | go_enter func269,ntmps269
 go_wp2_with fail;refine HI.o.mono ?_;rintro e w1 ⟨rfl,U⟩;have Z:Hu (IsBd B b (Lib.byteCells l) w1/\Below B w w1):=qH ⟨qlb I.o.1 U,U.mono I.o.2.2⟩;clear U;go_wp2_with fail
 go_loopw [13] (fun x13 W=>∃j:Nat,x13=.int .i64 j/\j<=wd-k/\Hu (IsBd B b (Lib.byteCells (l++List.replicate j 48)) W)/\Hu (Below B w W)) (fun x13 _=>wd-k-(intOf x13).toNat)
 case atStart=>exact⟨0,rfl,qal _,qH (by simpa using Z.o.1),qH Z.o.2⟩
 case round =>
  obtain⟨j,rfl,hj,hI,hB⟩:=hrel;have aa:Hu (B<=wr.heap.size):=qH (qaj I.o.2.2 hB.o.size);have O:Hu ((Lib.byteCells (l++List.replicate j 48)).length<=4398046511204):=qH (by rw [Lib.byteCells_length,qaf,qaO];have:=I.o.2.1;omega)
  by_cases ai:j<wd-k
  ·have ah:(j:Int)<(wd:Int)-k:=by omega
   go_wp2_with fail;refine (qih B b _ 48 _ hI.o (by have:=O.o;omega) aa.o).mono ?_;rintro e w2 ⟨rfl,H,F⟩;have Y:Hu (IsBd B b (Lib.byteCells (l++List.replicate (j+1) 48)) w2/\Below B w w2):=qH ⟨.inr (by
    have e1:Lib.byteCells (l++List.replicate (j+1) 48)=Lib.byteCells (l++List.replicate j 48)++[.int .u8 48]:=by
     rw [List.replicate_succ',<-qaI];unfold Lib.byteCells;rw [qa3];rfl
    rw [e1];exact H),hB.o.trans F⟩
   clear H F;go_wp2;go_roundw
   case rel=>exact⟨j+1,by go_num,ai,qH Y.o.1,qH Y.o.2⟩
   case measure=>simp [intOf];omega
  ·obtain rfl:j=wd-k:=by omega
   have ah:¬((wd-k:Nat):Int)<(wd:Int)-k:=by omega
   go_wp2_with fail;refine (qhi B b _ t _ hI.o (by have:=O.o;omega) aa.o).mono ?_;rintro e w2 ⟨rfl,H,F⟩;have Y:Hu (IsBd B b (Lib.byteCells (l++(List.replicate (wd-k) 48++D))) w2/\Below B w w2):=qH ⟨.inr (by
    have e1:Lib.byteCells (l++(List.replicate (wd-k) 48++D))=Lib.byteCells (l++List.replicate (wd-k) 48)++Lib.strCells t:=by
     rw [Lib.strCells_eq,HN.o.1,<-qaI];unfold Lib.byteCells;rw [qa3]
    rw [e1];exact H),hB.o.trans F⟩
   clear H F;go_wp2_with fail
   go_end0
   exact⟨rfl,Y.o.1,Y.o.2⟩)
theorem qep (pk:Pk) (x K:Nat) (hK:K<=274877906944) (vm:Value) (w:World) (hm:MagAt w vm x) (hx:Fit x K) (hT:HasT w) :
  Calls prog (Pk.of pk 162 239) #[vm] w fun e w'=>e=.returned (.string (num x))/\Below w.heap.size w w':=by
 have hz:=(qcw pk) x vm w hm
 by_cases h0:x=0
 ·subst h0;rw [qV rfl] at hz;have hn:num 0=⟨#[48]⟩:=by unfold num;rw [qb1 (by decide)];rfl
  rw [hn];have HZ:=qH hz;obtain⟨am,bm,om,cm,n,M,rfl,F,ay⟩:=hm;clear hz hn F ay hT;cases pk <;> dsimp only [Pk.of] at * <;> (
  first | go_enter func162,ntmps162 | go_enter func239,ntmps239
  go_wp2_with fail;refine HZ.o.mono ?_;rintro e V ⟨rfl,rfl⟩;go_wp2;go_ret;exact⟨rfl,Below.refl _ _⟩)
 ·rw [qU h0] at hz;have HZ:=qH hz;obtain⟨am,bm,om,cm,n,M,rfl,F,rfl⟩:=hm;have aB:n≠0:=fun e=>h0 (F.nrm.zero.2 (by rw [F.len];exact e))
  obtain⟨l,rfl⟩:∃l,n=l+1:=⟨n-1,by omega⟩;have hl:l<=274877906944:=by have:=hx.len F;omega
  have ht:=F.nrm.resolve_left (by rw [F.len];omega);rw [F.len,Nat.add_sub_cancel] at ht;have az:=F.addr (by omega);subst az;have ax:Hu (∀W,Below w.heap.size w W->HasT W):=qH fun W h=>hT.below h
  obtain⟨l1,ag⟩:=qX (l+1);have i1:(l1:Int)-1=l:=by omega
  have i4:(l:Int)<l1:=by omega
  have aD:l1<=274877906945:=by omega
  have Y:=qH F;have Hl:=qH (qA ag ht);rw [ag] at HZ ⊢;obtain⟨W1,J⟩:=qY (w.alloc (.cells #[.pointer none,.slice none 0 0] 304));have H:Below w.heap.size w W1:=J▸qB.alloc qN _;have ai:IsBd w.heap.size w.heap.size (Lib.byteCells []) W1:=by rw [J];exact Lib.fresh_isBuilder 304 5 w
  have O:=(F.below H).cell l (by omega);obtain⟨d,hd⟩:=qX (dg M l);have aA:d<1000000000:=by rw [<-hd];exact F.dig l
  rw [hd] at O;have hp:=(qhA pk) w.heap.size w.heap.size [] d 0 aA (by omega) W1 ai (by simp) H.size (hT.below H);rw [Nat.zero_sub] at hp;have HP:=qH hp;have U:mval (M.drop l)=d:=by
   rw [qcV M l,show M.getD l 0=d from hd,qaT (by rw [F.len];omega)];rfl
  have HD:=qH (qA U hd);have av:=qH H;clear hz F h0 aB ht ag hx hT ai hp U hd H;have z_put_any:=qH (@qhA pk);cases pk <;> dsimp only [Pk.of] at * <;> (
  first | go_enter func162,ntmps162 | go_enter func239,ntmps239
  go_wp2_with fail;refine HZ.o.mono ?_;rintro e V ⟨rfl,rfl⟩;rw [J] at O;go_wp2_with fail;rw [<-J];refine HP.o.mono ?_;rintro e w2 ⟨rfl,aj,ah⟩;have H2:Hu (IsBd V.heap.size V.heap.size (Lib.byteCells (Lib.decDigits (mval (M.drop l)))) w2/\Below V.heap.size V w2):=qH ⟨by rw [HD.o.1];simpa using aj,av.o.trans ah⟩;clear aj ah J O HP;have Y:=qH (Y.o);go_wp2_with fail
  go_loopw [6] (fun x6 W=>∃(k:Nat) (z:Int),k<=l/\x6=.int .i64 z/\Hu (z+1=k)/\Hu (IsBd V.heap.size V.heap.size (Lib.byteCells (Lib.decDigits (mval (M.drop k)))) W)/\Hu (Below V.heap.size V W)) (fun x6 _=>(intOf x6+1).toNat)
  case atStart=>exact⟨l,_,qae _,rfl,qH (by omega),qH H2.o.1,qH H2.o.2⟩
  case round =>
   obtain⟨k,z,hk,rfl,hz,hI,hB⟩:=hrel
   by_cases aG:0<k
   ·obtain⟨j,rfl⟩:∃j,k=j+1:=⟨k-1,by omega⟩;obtain rfl:z=(j:Int):=by have:=hz.o;omega
    have aF:(j:Int)<l1:=by omega
    have O:=(Y.o.below hB.o).cell j (by have:=Hl.o.1;omega);obtain⟨d2,Z⟩:=qX (dg M j);have au:d2<1000000000:=by rw [<-Z];exact Y.o.dig j
    rw [Z] at O;have ae:0<mval (M.drop (j+1)):=by
     have aC:Nrm (M.drop (j+1)):=qag (by
      rw [qbd,Y.o.len,qaa,List.getElem?_drop,<-qaa];rw [show j+1+(l+1-(j+1)-1)=l by omega];exact Hl.o.2)
     rcases qaU (mval (M.drop (j+1))) with h | h
     ·have:=aC.zero.1 h;rw [qbd,Y.o.len] at this;omega
     ·exact h
    have af:=drop_num (L:=M) (j:=j) Y.o.dig ae;rw [show M.getD j 0=d2 from Z] at af;have aa:(Lib.decDigits (mval (M.drop (j+1)))).length<=4398046511104:=by
     have h1:=(Y.o.dig.drop (j+1)).lt;rw [qbd,Y.o.len,pow9] at h1;have h2:=qcq (9*(l+1-(j+1))) _ (by omega) h1;omega
    have hp:=z_put_any.o V.heap.size V.heap.size _ d2 9 au qN wr hI.o aa hB.o.size (ax.o _ hB.o);rw [<-af] at hp;have HP:=qH hp;clear hp af aa ae Z;go_wp2_with fail;refine HP.o.mono ?_;rintro e w3 ⟨rfl,ak,I⟩;have H3:=qH (qA ak (hB.o.trans I));clear ak I;go_wp2;go_roundw
    case rel=>exact⟨j,_,by omega,rfl,qH (by omega),qH H3.o.1,qH H3.o.2⟩
    case measure=>simp [intOf]
   ·obtain rfl:k=0:=by omega
    obtain rfl:z = -1:=by have:=hz.o;omega
    have hs:=Tryz.Builder_String_any _ _ _ _ hI.o hB.o.size;rw [List.drop_zero] at hs;have HS:=qH hs;clear hs;go_wp2_with fail;refine HS.o.mono ?_;rintro e w3 ⟨rfl,I⟩;have H3:=qH I;clear I;go_wp2;go_ret;exact⟨rfl,hB.o.trans H3.o⟩)
theorem qb6 (J:Pk) (x:Nat) (neg:Bool) (Z:Value) (w:World) (V:MagAt w Z x) :
  Calls prog (Pk.of J 95 180) #[Z,.bool neg] w fun e w'=>∃v,e=.returned v/\Below w.heap.size w w'/\IntAt w' v (if neg=true then -(x:Int) else x):=by
 have Y:=fun (W:World) (h:Below w.heap.size w W)=>(qcw J) x Z W (V.below h)
 obtain⟨b0,H⟩:=qX (decide (x=0));have U:=fun (W:World) (h:Below w.heap.size w W)=>qlA (neg:=neg) (V.below h)
 rw [H] at Y U;obtain⟨am,bm,om,cm,n,M,rfl,Im,O⟩:=V;have HZ:=qH Y;have HI:=qH U;have I:∀cs,Below w.heap.size w (w.alloc (.cells cs (Pk.of J 136 242))):=fun cs=>qB.alloc qN _
 have F:=qH I;generalize (if neg=true then -(x:Int) else x)=z at *;clear Y Im O H I U;cases neg with
 | false =>
  cases J <;> dsimp only [Pk.of] at * <;> (
  first | go_enter func95,ntmps95 | go_enter func180,ntmps180
  go_wp2_with fail;refine qR (v:=.agg #[.slice am n cm,.bool false]) (qcX rfl _ _ w.heap.size _ _ _ rfl (qM _ _ _ rfl) (by first | exact underlying136 | exact underlying242) rfl 2 (by kernel_rfl) rfl) rfl ⟨_,rfl,F.o _,HI.o _ (F.o _)⟩)
 | true =>
  cases J <;> dsimp only [Pk.of] at * <;> (
  first | go_enter func95,ntmps95 | go_enter func180,ntmps180
  go_wp2_with fail;refine (HZ.o _ (F.o _)).mono ?_;rintro e w1 ⟨rfl,rfl⟩;go_wp2_with fail;refine qR (v:=.agg #[.slice am n cm,.bool (!b0)]) (qcX rfl _ _ w.heap.size _ _ _ rfl (qM _ _ _ rfl) (by first | exact underlying136 | exact underlying242) rfl 2 (by kernel_rfl) rfl) rfl ⟨_,rfl,F.o _,HI.o _ (F.o _)⟩)
theorem qcn (pk:Pk) (s:ByteArray) (V:Valid s.data.toList) (w:World) :
  Calls prog (Pk.of pk 147 167) #[.string s] w fun e w'=>∃v,e=.returned v/\Below w.heap.size w w'/\IntAt w' v (ival s.data.toList):=by
 have hc:=fun W=>Tryz.strings_CutPrefix s ⟨#[45]⟩ W
 obtain⟨t,ht⟩:=qX ((⟨(Lib.trimPrefix s.data.toList (ByteArray.mk #[45]).data.toList).toArray⟩:ByteArray):ByteArray);have I:t.data.toList=body s.data.toList:=by rw [<-ht];rfl
 have U:t.size=(body s.data.toList).length:=by rw [<-I];rfl
 obtain⟨b,hb⟩:=qX (Lib.hasPrefix s.data.toList (ByteArray.mk #[45]).data.toList);have Y:signd s.data.toList=b:=hb;rw [ht,hb] at hc;have hg:=fun W=>(qhX pk) t (by rw [I];exact V.nums) (by rw [U];exact V.pos) (by rw [U];have:=V.le;omega) W
 have hn:=V.natAbs;have F:=V.neg;rw [I,<-hn] at hg;rw [Y] at F;have HC:=qH hc;have HG:=qH hg;have HN:=qH F;generalize ival s.data.toList=z at *;clear hc hg hn F Y hb U I ht V;cases pk <;> dsimp only [Pk.of] at * <;> (
 first | go_enter func147,ntmps147 | go_enter func167,ntmps167
 go_wp2_with fail;refine (HC.o _).mono ?_;rintro e w1 ⟨rfl,rfl⟩;go_wp2_with fail;refine (HG.o _).mono ?_;rintro e w2 ⟨v,rfl,J,hv⟩;have H:w2.heap[w.heap.size]? = some (.cells #[.slice none 0 0,.bool false] _ (0,0)):=(J.block _ (by simp)).trans (qM _ _ _ rfl);have O:Below w.heap.size w w2:=(qB.alloc qN _).trans (J.mono (by simp));have Z:=qcF (cs':=#[v,.bool b]) hv H qdm;have HR:=qH (qA H (qA O (qS O qN #[v,.bool b])));have HV:=qH Z;obtain⟨am,bm,om,cm,n,M,rfl,Im,aa⟩:=hv;clear H O Z J Im aa
 go_wp2_with ((with_reducible refine wpList_store_row rfl _ _ _ rfl w.heap.size #[.slice am n cm,.bool b] ?_ ?_ _ _ HR.o.1 2 ?_ ?_ ?_ ?_ ?_);(next=>rfl);(next=>rfl);(next=>kernel_rfl);(next=>rfl);(next=>rfl);(next=>rfl))
 refine qR (v:=.agg #[.slice am n cm,.bool b]) (qcX rfl _ _ w.heap.size _ _ _ rfl (qT _ _ _ _ _ _ HR.o.1) (by first | exact underlying136 | exact underlying242) rfl 2 (by kernel_rfl) rfl) rfl ⟨_,rfl,HR.o.2.2,_,by rw [HN.o],HV.o⟩)
