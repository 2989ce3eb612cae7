/- Numbers as bytes: what the wire's writers put and its readers get; plain functions on lists, no program. -/
import Derived.Test.YtohpeoakdgckfaaGreatAp
import Derived.Laws.BitsLemmas
import Derived.Laws.Bits64b
import Derived.WalkKit
import Derived.Laws.BitsAllLaws
set_option maxRecDepth 10000
namespace Go.Proofs.YtohpeoakdgckfaaGreat
def septs (n:Nat):List UInt8:=if h:n<128 then [UInt8.ofNat n] else UInt8.ofNat (n % 128+128)::septs (n / 128)
termination_by n
decreasing_by omega
def maxNum:Nat:=1099511627776
theorem z1e {n:Nat} (h:n<128):septs n=[UInt8.ofNat n]:=by rw [septs,dif_pos h]
theorem z3w {n:Nat} (h:¬ n<128):septs n=UInt8.ofNat (n % 128+128)::septs (n / 128):=by rw [septs,dif_neg h]
theorem z8u (n:Nat):septs n≠[]:=by rw [septs];split<;>simp
theorem zku (n:Nat) (k:Nat) (h:n<128 ^ (k+1)):(septs n).length<=k+1:=by
 induction k generalizing n with
 | zero=>rw [z1e (by simpa using h)];simp
 | succ k ih =>
  by_cases h1:n<128
  · rw [z1e h1];simp
  · rw [z3w h1,List.length_cons]
    have:n / 128<128 ^ (k+1):=by
     rw [Nat.div_lt_iff_lt_mul (by omega)]
     rw [Nat.pow_succ] at h
     exact h
    have:=ih _ this
    omega
theorem z09 {n:Nat} (h:n<=maxNum):(septs n).length<=6:=zku n 5 (by unfold maxNum at h;omega)
def fixed (n:Nat):List UInt8:=[UInt8.ofNat n,UInt8.ofNat (n / 256),UInt8.ofNat (n / 65536),UInt8.ofNat (n / 16777216)]
def texts (l:List UInt8):List UInt8:=septs l.length++l
end Go.Proofs.YtohpeoakdgckfaaGreat
namespace Go.Proofs.YtohpeoakdgckfaaGreat
open Go.RowKit
theorem zc4 (a:Nat):a &&& 16711935=(a / 65536 % 256)*65536+a % 256:=by
 have h1:(a &&& 16711935) % 2 ^ 16=a % 256:=by
  rw [Nat.and_mod_two_pow,show 16711935 % 2 ^ 16=2 ^ 8 - 1 by decide,Nat.and_two_pow_sub_one_eq_mod];omega
 have h2:(a &&& 16711935) / 2 ^ 16=a / 65536 % 256:=by
  rw [Nat.and_div_two_pow,show 16711935 / 2 ^ 16=2 ^ 8 - 1 by decide,Nat.and_two_pow_sub_one_eq_mod]
 omega
theorem zng (a b:Nat):(a ||| b) % 65536=(a % 65536) ||| (b % 65536)/\(a ||| b) / 65536=(a / 65536) ||| (b / 65536):=by
 constructor
 · exact Nat.or_mod_two_pow (n:=16)
 · exact Nat.or_div_two_pow (n:=16)
theorem z98 (a b:Nat) (i:Nat) (hb:b<2 ^ i):(2 ^ i*a) ||| b=2 ^ i*a+b:=(Nat.two_pow_add_eq_or_of_lt hb a).symm
def ofBytes (b0 b1 b2 b3:Nat):Nat:=b0+256*b1+65536*b2+16777216*b3
-- The first step of ReverseBytes32: bytes change places in pairs.
theorem zkv (b0 b1 b2 b3:Nat) (h0:b0<256) (h1:b1<256) (h2:b2<256) (h3:b3<256) :
 ((ofBytes b0 b1 b2 b3 / 256) &&& 16711935) ||| ((ofBytes b0 b1 b2 b3 &&& 16711935)*256)=ofBytes b1 b0 b3 b2:=by
 rw [zc4,zc4]
 unfold ofBytes
 have e1:(b0+256*b1+65536*b2+16777216*b3) / 256 / 65536 % 256=b3:=by omega
 have e2:(b0+256*b1+65536*b2+16777216*b3) / 256 % 256=b1:=by omega
 have e3:(b0+256*b1+65536*b2+16777216*b3) / 65536 % 256=b2:=by omega
 have e4:(b0+256*b1+65536*b2+16777216*b3) % 256=b0:=by omega
 rw [e1,e2,e3,e4]
 obtain ⟨x,hx⟩ : ∃ x,b3*65536+b1=x:=⟨_,rfl⟩
 obtain ⟨y,hy⟩ : ∃ y,(b2*65536+b0)*256=y:=⟨_,rfl⟩
 rw [hx,hy]
 have hs:=zng x y
 have l1:x % 65536=b1:=by omega
 have l2:y % 65536=2 ^ 8*b0:=by omega
 have l3:x / 65536=b3:=by omega
 have l4:y / 65536=2 ^ 8*b2:=by omega
 rw [l1,l2,l3,l4,Nat.or_comm b1,z98 _ _ 8 (by omega),Nat.or_comm b3,z98 _ _ 8 (by omega)] at hs
 omega
theorem zjk (b0 b1 b2 b3:Nat) (h0:b0<256) (h1:b1<256) (h2:b2<256) (h3:b3<256) :
 (ofBytes b1 b0 b3 b2 / 65536) ||| (ofBytes b1 b0 b3 b2*65536 % 4294967296)=ofBytes b3 b2 b1 b0:=by
 unfold ofBytes
 have e1:(b1+256*b0+65536*b3+16777216*b2) / 65536=b3+256*b2:=by omega
 have e2:(b1+256*b0+65536*b3+16777216*b2)*65536 % 4294967296=2 ^ 16*(b1+256*b0):=by omega
 rw [e1,e2,Nat.or_comm,z98 _ _ 16 (by omega)]
 omega
theorem zg9 (n:Nat) (_h:n<4294967296):ofBytes (n % 256) (n / 256 % 256) (n / 65536 % 256) (n / 16777216)=n:=by unfold ofBytes;omega
theorem zdk (a b:Nat) (ha:a<4294967296) (hb:b<4294967296):bits .and .u32 (a:Int) (b:Int)=((a &&& b:Nat):Int)/\bits .or .u32 (a:Int) (b:Int)=((a ||| b:Nat):Int) :=
 bits_nat .u32 32 (by decide) (fun n h0 h1=>by rw [IntKind.wrap_u32];omega) a b (by simpa using ha) (by simpa using hb)
theorem zsd (a:Nat) (h:a<256):bits BinOp.and IntKind.u8 (a:Int) 127=((a % 128:Nat):Int):=by
 have k : ∀ a:Fin 256,bits BinOp.and IntKind.u8 ((a.val:Nat):Int) 127=((a.val % 128:Nat):Int):=by decide +kernel
 exact k ⟨a,h⟩
theorem zse (a b:Nat) (ha:a<9223372036854775808) (hb:b<9223372036854775808):bits .or .i64 (a:Int) (b:Int)=((a ||| b:Nat):Int) :=
 (bits_nat .i64 63 (by decide) (fun n h0 h1=>by rw [IntKind.wrap_i64];omega) a b (by simpa using ha) (by simpa using hb)).2
theorem zsf (acc x i:Nat) (h:acc<128 ^ i):acc ||| (x*128 ^ i)=acc+x*128 ^ i:=by
 have e:(128:Nat) ^ i=2 ^ (7*i):=by rw [show (128:Nat)=2 ^ 7 by decide,← Nat.pow_mul]
 rw [e] at h ⊢
 rw [Nat.or_comm,Nat.mul_comm,z98 x acc (7*i) h,Nat.add_comm]
theorem zga {i:Nat} (h:i<=5):128 ^ i<=34359738368:=by
 have:(128:Nat) ^ i<=128 ^ 5:=Nat.pow_le_pow_right (by omega) h
 simpa using this
theorem zqh (x i:Nat) (hx:x<128) (hi:i<=5):wrap64 ((x:Int)*2 ^ (7*i))=((x*128 ^ i:Nat):Int):=by
 have h1:=zga hi
 have h2:x*128 ^ i<=128*34359738368:=Nat.mul_le_mul (by omega) h1
 have e:((x:Int)*2 ^ (7*i))=((x*128 ^ i:Nat):Int):=by
  have e2:(2:Nat) ^ (7*i)=128 ^ i:=by rw [show (128:Nat)=2 ^ 7 by decide,← Nat.pow_mul]
  rw [← e2];simp
 rw [e];unfold wrap64;omega
theorem zsg (acc x i:Nat) (hx:x<128) (hi:i<=5) (ha:acc<128 ^ i):bits .or .i64 (acc:Int) ((x*128 ^ i:Nat):Int)=((acc+x*128 ^ i:Nat):Int):=by
 have h1:=zga hi
 have h2:x*128 ^ i<=128*34359738368:=Nat.mul_le_mul (by omega) h1
 rw [zse acc (x*128 ^ i) (by omega) (by omega),zsf acc x i ha]
theorem znh (acc x i:Nat) (hx:x<128) (ha:acc<128 ^ i):acc+x*128 ^ i<128 ^ (i+1):=by
 have:(x+1)*128 ^ i<=128*128 ^ i:=Nat.mul_le_mul_right _ (by omega)
 rw [Nat.add_mul] at this
 rw [Nat.pow_succ];omega
end Go.Proofs.YtohpeoakdgckfaaGreat
namespace Go.Proofs.YtohpeoakdgckfaaGreat
def poly:Nat:=3988292384
def crcBit (s:Nat) (b:Bool):Nat:=if ((s % 2 == 1) != b) then s / 2 ^^^ poly else s / 2
def bitsOf (n:Nat):List Bool:=(List.range 8).map fun i=>n / 2 ^ i % 2 == 1
def crcTake (s n:Nat):Nat:=(bitsOf n).foldl crcBit s
def crcTab (i:Nat):Nat:=crcTake 0 i
def crcAll (s:Nat) (l:List UInt8):Nat:=l.foldl (fun s b=>crcTake s b.toNat) s
theorem zkw {s:Nat} (h:s<4294967296) (b:Bool):crcBit s b<4294967296:=by
 unfold crcBit
 split
 · exact Nat.xor_lt_two_pow (n:=32) (by omega) (by unfold poly;omega)
 · omega
theorem z8v : ∀ (bs:List Bool) (s:Nat),s<4294967296->bs.foldl crcBit s<4294967296
 | [],_,h=>h
 | b::bs,_s,h=>z8v bs _ (zkw h b)
theorem zau {s:Nat} (h:s<4294967296) (n:Nat):crcTake s n<4294967296:=z8v _ _ h
theorem z3x : ∀ (l:List UInt8) (s:Nat),s<4294967296->crcAll s l<4294967296
 | [],_,h=>h
 | _b::l,_s,h=>z3x l _ (zau h _)
def st (x:Nat):Nat:=crcBit x false
theorem zhy (x y:Nat):(x ^^^ y) % 2=(x+y) % 2:=by
 have h:=Nat.xor_mod_two_pow (a:=x) (b:=y) (n:=1)
 have k : ∀ a b:Nat,a<2->b<2->(a ^^^ b)=(a+b) % 2:=by
  intro a b ha hb
  obtain rfl|rfl:a=0\/a=1:=by omega
  all_goals obtain rfl|rfl:b=0\/b=1:=by omega
  all_goals decide
 simp only [Nat.pow_one] at h
 rw [h,k _ _ (Nat.mod_lt _ (by omega)) (Nat.mod_lt _ (by omega))]
 omega
theorem zhz (x y:Nat):(x ^^^ y) / 2=x / 2 ^^^ y / 2:=by
 have h:=Nat.xor_div_two_pow (a:=x) (b:=y) (n:=1)
 simpa using h
theorem zps (x y:Nat):st (x ^^^ 2*y)=st x ^^^ y:=by
 unfold st crcBit
 have h1:(x ^^^ 2*y) % 2=x % 2:=by rw [zhy];omega
 have h2:(x ^^^ 2*y) / 2=x / 2 ^^^ y:=by rw [zhz];congr 1;omega
 rw [h1,h2]
 split
 · rw [Nat.xor_assoc,Nat.xor_comm y,← Nat.xor_assoc]
 · rfl
theorem zqi (s:Nat) (b:Bool):crcBit s b=st (s ^^^ (if b then 1 else 0)):=by
 unfold st crcBit
 cases b
 · simp
 · have h1:=zhy s 1
   have h2:(s ^^^ 1) / 2=s / 2:=by rw [zhz];simp
   simp only [if_true,h2]
   rcases Nat.mod_two_eq_zero_or_one s with h|h
   · have h3:(s ^^^ 1) % 2=1:=by omega
     simp [h,h3]
   · have h3:(s ^^^ 1) % 2=0:=by omega
     simp [h,h3]
def stN:Nat->Nat->Nat
 | 0,x=>x
 | n+1,x=>stN n (st x)
theorem zkx : ∀ (n x y:Nat),stN n (x ^^^ 2 ^ n*y)=stN n x ^^^ y
 | 0,x,y=>by simp [stN]
 | n+1,x,y=>by
  show stN n (st (x ^^^ 2 ^ (n+1)*y))=stN n (st x) ^^^ y
  rw [show 2 ^ (n+1)*y=2*(2 ^ n*y) by rw [Nat.pow_succ];rw [Nat.mul_comm (2 ^ n) 2,Nat.mul_assoc],zps,zkx n]
theorem zdl : ∀ (n s v:Nat),((List.range n).map fun i=>v / 2 ^ i % 2 == 1).foldl crcBit s=stN n (s ^^^ v % 2 ^ n)
 | 0,s,v=>by simp [stN,Nat.mod_one]
 | n+1,s,v=>by
  rw [List.range_succ_eq_map,List.map_cons,List.foldl_cons,List.map_map]
  have e:((fun i=>v / 2 ^ i % 2 == 1) ∘ Nat.succ)=fun i=>(v / 2) / 2 ^ i % 2 == 1:=by
   funext i
   simp only [Function.comp,Nat.succ_eq_add_one]
   rw [Nat.div_div_eq_div_mul,Nat.pow_succ,Nat.mul_comm (2 ^ i) 2]
  rw [e,zdl n,zqi]
  show _=stN n (st (s ^^^ v % 2 ^ (n+1)))
  congr 1
  have h1:v % 2 ^ (n+1)=(v % 2) ^^^ 2*(v / 2 % 2 ^ n):=by
   have h2:v % 2 ^ (n+1)=v % 2+2*(v / 2 % 2 ^ n):=by
    rw [Nat.pow_succ,Nat.mul_comm,Nat.mod_mul]
   have h3:=Nat.two_pow_add_eq_or_of_lt (i:=1) (b:=v % 2) (by omega) (v / 2 % 2 ^ n)
   rw [h2,Nat.add_comm]
   apply Nat.eq_of_testBit_eq
   intro i
   have h4 : ∀ a:Nat,(2*a+v % 2)=(2*a) ||| (v % 2):=fun a=>by
    have:=Nat.two_pow_add_eq_or_of_lt (i:=1) (b:=v % 2) (by omega) a
    simpa using this
   rw [h4,Nat.testBit_or,Nat.testBit_xor]
   cases i with
   | zero=>simp
   | succ i =>
    have h5:(v % 2).testBit (i+1)=false:=by
     rw [Nat.testBit_succ];simp [show v % 2 / 2=0 by omega]
    rw [h5];simp
  rw [h1,← Nat.xor_assoc,zps]
  congr 2
  congr 1
  rcases Nat.mod_two_eq_zero_or_one v with h|h<;>simp [h]
theorem zav (s n:Nat) (hn:n<256):crcTake s n=stN 8 (s ^^^ n):=by
 unfold crcTake bitsOf
 rw [zdl 8]
 congr 2
 omega
theorem zgb (s n:Nat) (hn:n<256):crcTake s n=crcTab (s % 256 ^^^ n) ^^^ s / 256:=by
 have hs:s=(s % 256) ^^^ 2 ^ 8*(s / 256):=by
  have h1:s=2 ^ 8*(s / 256)+s % 256:=by omega
  have h2:=Nat.two_pow_add_eq_or_of_lt (i:=8) (b:=s % 256) (by omega) (s / 256)
  apply Nat.eq_of_testBit_eq
  intro i
  rw [Nat.testBit_xor]
  conv=>lhs;rw [h1,h2,Nat.testBit_or]
  rw [Nat.testBit_two_pow_mul]
  by_cases c:8<=i
  · have h3:(s % 256).testBit i=false:=Nat.testBit_lt_two_pow (Nat.lt_of_lt_of_le (Nat.mod_lt _ (by omega)) (Nat.pow_le_pow_right (n:=2) (by omega) c))
    rw [h3];simp
  · simp [c]
 have hx:s % 256 ^^^ n<256:=Nat.xor_lt_two_pow (n:=8) (Nat.mod_lt _ (by omega)) hn
 have h3:crcTab (s % 256 ^^^ n)=stN 8 (s % 256 ^^^ n):=by
  unfold crcTab;rw [zav 0 _ hx];simp
 rw [zav s n hn,h3]
 conv=>lhs;rw [hs,Nat.xor_assoc,Nat.xor_comm _ n,← Nat.xor_assoc,zkx]
end Go.Proofs.YtohpeoakdgckfaaGreat
